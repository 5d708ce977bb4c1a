/-
  The code of the functions in the small form, by program (gen.py); each is checked against the translation by the kernel.
-/
import Derived.Test.YtdnjkeeiopcipaaChecked
import Derived.Test.YtdnjkeeiopcipaaP4
set_option linter.unusedVariables false
set_option linter.unusedSimpArgs false
set_option linter.unusedSectionVars false
namespace Go.Proofs.Ytdnjkeeiopcipaa
open Go.Sl Go.Proofs
theorem mixed : Try.prog.follows .mixedOrders = true := by kernel_rfl
abbrev T_ : Nat := 0
abbrev T_func : Nat := 1
abbrev T_int64 : Nat := 2
abbrev T_int : Nat := 3
abbrev T_bool : Nat := 4
abbrev T_uint8 : Nat := 5
abbrev T_abi_BoundsErrorCode : Nat := 6
abbrev T_runtime_boundsError : Nat := 8
abbrev T_string : Nat := 9
abbrev T_runtime_errorString : Nat := 10
abbrev T_runtime_plainError : Nat := 11
abbrev T_uintptr : Nat := 12
abbrev T_struct_msg_string_addr_uintptr : Nat := 13
abbrev T_runtime_errorAddressString : Nat := 14
abbrev T_P_runtime_TypeAssertionError : Nat := 15
abbrev T_P_runtime_PanicNilError : Nat := 16
abbrev T_P_abi_Type : Nat := 17
abbrev T_struct_typ_P_abi_Type : Nat := 18
abbrev T_maps_unhashableTypeError : Nat := 19
abbrev T_interface : Nat := 20
abbrev T_int32 : Nat := 21
abbrev T_L_tranterlaw12_Act : Nat := 22
abbrev T_uint32 : Nat := 23
abbrev T_A8_uint32 : Nat := 24
abbrev T_api_Vector : Nat := 25
abbrev T_P_stable_Tracker : Nat := 26
abbrev T_api_Errno : Nat := 27
abbrev T_P_stable_Tracker_api_Errno : Nat := 28
abbrev T_func_bool : Nat := 30
abbrev T_func_api_Vector_api_Errno : Nat := 31
abbrev T_struct_Own_bool_R_uint8_V_api_Vector : Nat := 32
abbrev T_tranterlaw12_Act : Nat := 33
abbrev T_func_uint8_api_Vector_api_Errno : Nat := 34
abbrev T_func_api_Vector : Nat := 35
abbrev T_func_int : Nat := 36
abbrev T_L_api_Op : Nat := 38
abbrev T_L_uint8 : Nat := 39
abbrev T_func_L_api_Op_int_int : Nat := 40
abbrev T_func_L_api_Op_bool : Nat := 41
abbrev T_func_L_api_Op_api_Vector : Nat := 42
abbrev T_struct_R_uint8_N_uint32 : Nat := 43
abbrev T_api_Dot : Nat := 44
abbrev T_uint64 : Nat := 45
abbrev T_L_api_Claim : Nat := 46
abbrev T_api_Op : Nat := 48
abbrev T_func_api_Vector_api_Dot_bool : Nat := 49
abbrev T_func_api_Vector_api_Vector_bool : Nat := 50
abbrev T_func_L_api_Op_api_Vector_L_uint8_bool : Nat := 51
abbrev T_L_api_Vector : Nat := 52
abbrev T_func_api_Vector_api_Vector : Nat := 53
abbrev T_func_L_api_Vector_api_Vector : Nat := 54
abbrev T_func_L_api_Vector_L_api_Vector_bool : Nat := 55
abbrev T_func_L_api_Vector_L_api_Vector : Nat := 56
abbrev T_func_L_api_Vector_bool : Nat := 57
abbrev T_api_Dot_api_Errno : Nat := 59
abbrev T_func_api_Vector_uint8_api_Dot_api_Errno : Nat := 60
abbrev T_api_Vector_api_Errno : Nat := 61
abbrev T_func_api_Vector_uint64 : Nat := 63
abbrev T_func_api_Vector_api_Vector_api_Dot_bool : Nat := 64
abbrev T_L_api_Dot : Nat := 65
abbrev T_L_api_Dot_api_Errno : Nat := 66
abbrev T_api_Dot_int : Nat := 68
abbrev T_func_api_Vector_uint8_api_Dot_int : Nat := 69
abbrev T_api_Vector_int : Nat := 70
abbrev T_func_api_Vector_api_Dot_api_Vector_int : Nat := 71
abbrev T_L_api_Dot_int : Nat := 72
abbrev T_func_api_Vector_api_Vector_L_api_Dot_int : Nat := 73
abbrev T_func_api_Vector_L_api_Dot_api_Errno : Nat := 74
abbrev T_func_L_api_Dot_L_api_Dot_bool : Nat := 75
abbrev T_func_P_stable_Tracker : Nat := 76
abbrev T_L_tranterref12_Heard : Nat := 79
abbrev T_tranterref12_Tracker : Nat := 81
abbrev T_tranterref12_Tracker_int : Nat := 82
abbrev T_func_int_uint8_tranterref12_Tracker_int : Nat := 83
abbrev T_tranterref12_Tracker_bool : Nat := 84
abbrev T_func_int_uint8_L_tranterlaw12_Act_bool : Nat := 87
abbrev T_A8_api_Vector : Nat := 88
abbrev T_mapAapi_Vector_int : Nat := 89
abbrev T_stable_acks : Nat := 90
abbrev T_A8_stable_acks : Nat := 91
abbrev T_stable_Tracker : Nat := 93
abbrev T_L_P_stable_Tracker : Nat := 94
abbrev T_func_uint8_api_Vector_bool : Nat := 95
abbrev T_func_uint32_uint32_api_Vector : Nat := 96
abbrev T_func_api_Vector_bool : Nat := 97
abbrev T_func_api_Op_int_int : Nat := 98
abbrev T_func_L_api_Op_api_Op_bool : Nat := 99
abbrev T_func_api_Dot_bool : Nat := 100
abbrev T_func_uint32_uint32_uint32_api_Vector : Nat := 101
abbrev T_func_api_Vector_api_Vector_api_Vector : Nat := 103
abbrev T_func_uint32_uint32_uint32 : Nat := 105
abbrev T_func_stable_acks_stable_acks : Nat := 108
abbrev T_func_tranterref12_Tracker_api_Vector : Nat := 112
abbrev T_func_tranterref12_Tracker_int : Nat := 113
abbrev T_func_int_bool : Nat := 114
abbrev T_func_api_Op_bool : Nat := 115
abbrev T_func_uint8_string : Nat := 116
abbrev T_func_api_Op_api_Dot_bool : Nat := 117
abbrev T_func_string_uint8_bool : Nat := 118
abbrev T_func_L_api_Op_api_Dot_int : Nat := 119
abbrev T_func_api_Op_api_Op_bool : Nat := 120
abbrev T_func_interface_interface : Nat := 122
abbrev T_struct_R_uint8_V_api_Vector : Nat := 124
abbrev T_tranterref12_Heard : Nat := 125
abbrev T_L_string : Nat := 126
abbrev T_struct_Line_api_Dot_Version_api_Dot : Nat := 127
abbrev T_api_Claim : Nat := 128
abbrev T_func_string : Nat := 129
abbrev T_runtime_TypeAssertionError : Nat := 131
abbrev T_A0_P_runtime_PanicNilError : Nat := 132
abbrev T_struct_A0_P_runtime_PanicNilError : Nat := 133
abbrev T_runtime_PanicNilError : Nat := 134
abbrev T_abi_TFlag : Nat := 135
abbrev T_abi_Kind : Nat := 136
abbrev T_func_unsafe_Pointer_unsafe_Pointer_bool : Nat := 137
abbrev T_P_uint8 : Nat := 138
abbrev T_abi_NameOff : Nat := 139
abbrev T_abi_TypeOff : Nat := 140
abbrev T_abi_Type : Nat := 142
abbrev T_unsafe_Pointer : Nat := 143
/-! ### gosem.cut.init -/
namespace gosem_cut_init
abbrev f : Nat := 2
def s : SCo := (.reg [⟨(some 0), .call (.k (.fn (.func 1) [] [])) [], none⟩] (fullB 1) false)
def rv : List RV := []
/-! live gosem_cut_init: [] -/
theorem c : cK Try.prog Try.f2.ntmps (Try.f2.body.getD .ret) = some s := by kernel_rfl
theorem b : Try.f2.body = some (Try.f2.body.getD .ret) := by kernel_rfl
theorem r : cRV Try.prog Try.f2.results.toList = some rv := by kernel_rfl
theorem ca : Callable Try.prog 2 = true := by kernel_rfl
theorem enter {args : List SV} {F : Hp} {k nk : Nat} {Q : SV → Hp → Prop} (hargs : SV.oks (fun n => decide (n < k)) args = true) (hF : F.ok (fun n => decide (n < k)) = true) (hN : args.length ≤ 1)
    (h : SW Try.prog 1 k s ⟨argE 0 args, F, k⟩ fun e st' => match e with | .normal => Fin k nk rv Q st' | .ret => Fin k nk rv Q st' | _ => False) : SB Try.prog 2 args F k nk Q :=
  SB.of_body Try.func2 b c r ca hargs hF hN h
end gosem_cut_init
/-! ### tranter.tranterlaw12.StableTurned -/
namespace law12_StableTurned
abbrev f : Nat := 3
def s : SCo := (.seq
(.reg [⟨(some 5), .box 25 (.t 2), none⟩,
⟨(some 6), .mv (.k (.d (.bool false))), none⟩] (fullB 2) false)
(.seq
(.reg [⟨(some 15), .mv (.t 0), none⟩,
⟨(some 16), .call (.k (.fn (.func 13) [] [])) [(.t 15), (.k (.d (.int .u8 0)))], none⟩,
⟨(some 14), .mv (.t 16), none⟩,
⟨(some 17), .ext 0 (.t 14), none⟩,
⟨(some 18), .ext 1 (.t 14), none⟩,
⟨(some 7), .mv (.t 17), none⟩,
⟨(some 8), .mv (.t 18), none⟩] (fullB 7) false)
(.seq
(.reg [⟨(some 20), .mv (.t 0), none⟩,
⟨(some 21), .call (.k (.fn (.func 13) [] [])) [(.t 20), (.k (.d (.int .u8 0)))], none⟩,
⟨(some 19), .mv (.t 21), none⟩,
⟨(some 22), .ext 0 (.t 19), none⟩,
⟨(some 23), .ext 1 (.t 19), none⟩,
⟨(some 9), .mv (.t 22), none⟩,
⟨(some 10), .mv (.t 23), none⟩] (fullB 7) false)
(.seq
 (.seq
 (.reg [⟨(some 24), .mv (.t 8), none⟩,
⟨(some 25), .bin .neq (.t 24) (.k (.d (.int .i64 0))), none⟩,
⟨(some 26), .mv (.t 25), none⟩,
⟨(some 27), .mv (.t 7), some (26, false)⟩,
⟨(some 28), .eqnil false 0 (.t 27), some (26, false)⟩,
⟨(some 29), .pick (.t 26) (.k (.d (.bool true))) (.t 28), none⟩,
⟨(some 30), .mv (.t 29), none⟩,
⟨(some 31), .mv (.t 9), some (30, false)⟩,
⟨(some 32), .eqnil false 0 (.t 31), some (30, false)⟩,
⟨(some 33), .pick (.t 30) (.k (.d (.bool true))) (.t 32), none⟩] (fullB 10) false)
 (.cond (.t 33)
 (.seq
 (.reg [⟨(some 34), .call (.k (.fn (.func 14) [] [])) [], none⟩,
⟨(some 6), .mv (.t 34), none⟩] (fullB 2) false)
 .ret)
 .skip))
 (.seq
 (.seq
 (.reg [⟨(some 35), .mv (.t 7), none⟩,
⟨(some 36), .load (some 8) (.t 5), none⟩,
⟨(some 37), .call (.k (.fn (.func 15) [] [])) [(.t 35), (.t 36)], none⟩,
⟨(some 38), .bin .neq (.t 37) (.k (.d (.int .i64 0))), none⟩] (fullB 4) false)
 (.cond (.t 38)
 (.seq
  (.reg [⟨(some 39), .call (.k (.fn (.func 14) [] [])) [], none⟩,
⟨(some 6), .mv (.t 39), none⟩] (fullB 2) false)
  .ret)
 .skip))
 (.seq
 (.reg [⟨(some 40), .mv (.t 1), none⟩,
⟨(some 41), .len (.t 40), none⟩,
⟨(some 42), .mn (.t 41) (.k (.d (.int .i64 30))), none⟩,
⟨(some 11), .mv (.t 42), none⟩] (fullB 4) false)
 (.seq
 (.seq
  (.reg [⟨(some 12), .mv (.k (.d (.int .i64 0))), none⟩] (fullB 1) false)
  (.block 0
  (.loop
  (.seq
  (.seq
   (.reg [⟨(some 43), .mv (.t 12), none⟩,
⟨(some 44), .mv (.t 11), none⟩,
⟨(some 45), .bin .lss (.t 43) (.t 44), none⟩] (fullB 3) false)
   (.cond (.t 45)
   .skip
   (.exit 0)))
  (.seq
   (.block 1
   (.seq
   (.reg [⟨(some 48), .mv (.t 1), none⟩,
⟨(some 49), .mv (.t 12), none⟩,
⟨(some 50), .idxS 10 (.t 48) (.t 49), none⟩,
⟨(some 51), .fld 1 (.t 50), none⟩,
⟨(some 52), .load none (.t 51), none⟩,
⟨(some 53), .bin .neq (.t 52) (.k (.d (.int .u8 0))), none⟩] (fullB 6) false)
   (.cond (.t 53)
   (.reg [⟨(some 54), .mv (.t 7), none⟩,
⟨(some 55), .mv (.t 1), none⟩,
⟨(some 56), .mv (.t 12), none⟩,
⟨(some 57), .idxS 10 (.t 55) (.t 56), none⟩,
⟨(some 58), .fld 1 (.t 57), none⟩,
⟨(some 59), .load none (.t 58), none⟩,
⟨(some 60), .mv (.t 1), none⟩,
⟨(some 61), .mv (.t 12), none⟩,
⟨(some 62), .idxS 10 (.t 60) (.t 61), none⟩,
⟨(some 63), .fld 2 (.t 62), none⟩,
⟨(some 64), .load (some 8) (.t 63), none⟩,
⟨(some 65), .call (.k (.fn (.func 16) [] [])) [(.t 54), (.t 59), (.t 64)], none⟩] [0,
0,
0,
6,
14,
30,
0,
0,
192,
448,
960,
2047] true)
   .skip)))
   (.reg [⟨(some 46), .mv (.t 12), none⟩,
⟨(some 47), .bin .add (.t 46) (.k (.d (.int .i64 1))), none⟩,
⟨(some 12), .mv (.t 47), none⟩] (fullB 3) false))))))
 (.seq
  (.seq
  (.reg [⟨(some 66), .mv (.t 11), none⟩,
⟨(some 67), .bin .sub (.t 66) (.k (.d (.int .i64 1))), none⟩,
⟨(some 13), .mv (.t 67), none⟩] (fullB 3) false)
  (.block 2
  (.loop
  (.seq
   (.seq
   (.reg [⟨(some 68), .mv (.t 13), none⟩,
⟨(some 69), .bin .geq (.t 68) (.k (.d (.int .i64 0))), none⟩] (fullB 2) false)
   (.cond (.t 69)
   .skip
   (.exit 2)))
   (.seq
   (.block 3
   (.seq
   (.reg [⟨(some 72), .mv (.t 1), none⟩,
⟨(some 73), .mv (.t 13), none⟩,
⟨(some 74), .idxS 10 (.t 72) (.t 73), none⟩,
⟨(some 75), .fld 1 (.t 74), none⟩,
⟨(some 76), .load none (.t 75), none⟩,
⟨(some 77), .bin .neq (.t 76) (.k (.d (.int .u8 0))), none⟩] (fullB 6) false)
   (.cond (.t 77)
    (.seq
    (.reg [⟨(some 78), .mv (.t 9), none⟩,
⟨(some 79), .mv (.t 1), none⟩,
⟨(some 80), .mv (.t 13), none⟩,
⟨(some 81), .idxS 10 (.t 79) (.t 80), none⟩,
⟨(some 82), .fld 1 (.t 81), none⟩,
⟨(some 83), .load none (.t 82), none⟩,
⟨(some 84), .mv (.t 1), none⟩,
⟨(some 85), .mv (.t 13), none⟩,
⟨(some 86), .idxS 10 (.t 84) (.t 85), none⟩,
⟨(some 87), .fld 2 (.t 86), none⟩,
⟨(some 88), .load (some 8) (.t 87), none⟩,
⟨(some 89), .call (.k (.fn (.func 16) [] [])) [(.t 78), (.t 83), (.t 88)], none⟩] [0,
0,
0,
6,
14,
30,
0,
0,
192,
448,
960,
2047] true)
    (.reg [⟨(some 90), .mv (.t 9), none⟩,
⟨(some 91), .mv (.t 1), none⟩,
⟨(some 92), .mv (.t 13), none⟩,
⟨(some 93), .idxS 10 (.t 91) (.t 92), none⟩,
⟨(some 94), .fld 1 (.t 93), none⟩,
⟨(some 95), .load none (.t 94), none⟩,
⟨(some 96), .mv (.t 1), none⟩,
⟨(some 97), .mv (.t 13), none⟩,
⟨(some 98), .idxS 10 (.t 96) (.t 97), none⟩,
⟨(some 99), .fld 2 (.t 98), none⟩,
⟨(some 100), .load (some 8) (.t 99), none⟩,
⟨(some 101), .call (.k (.fn (.func 16) [] [])) [(.t 90), (.t 95), (.t 100)], none⟩] [0,
0,
0,
6,
14,
30,
0,
0,
192,
448,
960,
2047] true))
    .skip)))
   (.reg [⟨(some 70), .mv (.t 13), none⟩,
⟨(some 71), .bin .sub (.t 70) (.k (.d (.int .i64 1))), none⟩,
⟨(some 13), .mv (.t 71), none⟩] (fullB 3) false))))))
  (.seq
  (.reg (⟨(some 102), .mv (.t 9), none⟩ ::
⟨(some 103), .load (some 8) (.t 5), none⟩ ::
⟨(some 104), .call (.k (.fn (.func 15) [] [])) [(.t 102), (.t 103)], none⟩ ::
⟨(some 105), .bin .eql (.t 104) (.k (.d (.int .i64 0))), none⟩ ::
⟨(some 106), .mv (.t 105), none⟩ ::
⟨(some 107), .mv (.t 7), some (106, true)⟩ ::
⟨(some 108), .call (.k (.fn (.func 17) [] [])) [(.t 107)], some (106, true)⟩ ::
⟨(some 109), .mv (.t 9), some (106, true)⟩ ::
⟨(some 110), .call (.k (.fn (.func 17) [] [])) [(.t 109)], some (106, true)⟩ ::
⟨(some 111), .eqv false [true, true, true, true, true, true, true, true] (.t 108) (.t 110), some (106, true)⟩ ::
⟨(some 112), .pick (.t 106) (.t 111) (.k (.d (.bool false))), none⟩ ::
⟨(some 113), .mv (.t 112), none⟩ ::
⟨(some 114), .mv (.t 7), some (113, true)⟩ ::
⟨(some 115), .call (.k (.fn (.func 18) [] [])) [(.t 114)], some (113, true)⟩ ::
⟨(some 116), .mv (.t 9), some (113, true)⟩ ::
⟨(some 117), .call (.k (.fn (.func 18) [] [])) [(.t 116)], some (113, true)⟩ ::
⟨(some 118), .bin .eql (.t 115) (.t 117), some (113, true)⟩ ::
⟨(some 119), .pick (.t 113) (.t 118) (.k (.d (.bool false))), none⟩ ::
⟨(some 120), .mv (.t 119), none⟩ ::
⟨(some 121), .call (.k (.fn (.func 14) [] [])) [], some (120, true)⟩ ::
⟨(some 122), .pick (.t 120) (.t 121) (.k (.d (.bool false))), none⟩ ::
⟨(some 6), .mv (.t 122), none⟩ :: []) (fullB 22) false)
  .ret)))))))))
def rv : List RV := [.tmp 6]
/-! live law12_StableTurned: [0, 1, 2, 5, 6, 7, 8, 9, 11, 12, 13, 33, 38, 45, 53, 69, 77] -/
theorem c : cK Try.prog Try.f3.ntmps (Try.f3.body.getD .ret) = some s := by kernel_rfl
theorem b : Try.f3.body = some (Try.f3.body.getD .ret) := by kernel_rfl
theorem r : cRV Try.prog Try.f3.results.toList = some rv := by kernel_rfl
theorem ca : Callable Try.prog 3 = true := by kernel_rfl
theorem enter {args : List SV} {F : Hp} {k nk : Nat} {Q : SV → Hp → Prop} (hargs : SV.oks (fun n => decide (n < k)) args = true) (hF : F.ok (fun n => decide (n < k)) = true) (hN : args.length ≤ 123)
    (h : SW Try.prog 123 k s ⟨argE 0 args, F, k⟩ fun e st' => match e with | .normal => Fin k nk rv Q st' | .ret => Fin k nk rv Q st' | _ => False) : SB Try.prog 3 args F k nk Q :=
  SB.of_body Try.func3 b c r ca hargs hF hN h
end law12_StableTurned
/-! ### tranter.tranterlaw12.StableSafe -/
namespace law12_StableSafe
abbrev f : Nat := 4
def s : SCo := (.seq
(.reg [⟨(some 4), .box 25 (.t 1), none⟩,
⟨(some 6), .mv (.k (.d (.bool false))), none⟩] (fullB 2) false)
(.seq
(.reg [⟨(some 15), .call (.k (.fn (.func 13) [] [])) [(.k (.d (.int .i64 8))), (.k (.d (.int .u8 0)))], none⟩,
⟨(some 14), .mv (.t 15), none⟩,
⟨(some 16), .ext 0 (.t 14), none⟩,
⟨(some 17), .ext 1 (.t 14), none⟩,
⟨(some 7), .mv (.t 16), none⟩,
⟨(some 8), .mv (.t 17), none⟩] (fullB 6) false)
(.seq
(.seq
 (.reg (⟨(some 18), .mv (.t 8), none⟩ ::
⟨(some 19), .bin .neq (.t 18) (.k (.d (.int .i64 0))), none⟩ ::
⟨(some 20), .mv (.t 19), none⟩ ::
⟨(some 21), .mv (.t 7), some (20, false)⟩ ::
⟨(some 22), .eqnil false 0 (.t 21), some (20, false)⟩ ::
⟨(some 23), .pick (.t 20) (.k (.d (.bool true))) (.t 22), none⟩ ::
⟨(some 24), .mv (.t 23), none⟩ ::
⟨(some 25), .mv (.t 0), some (24, false)⟩ ::
⟨(some 26), .call (.k (.fn (.func 19) [] [])) [(.t 25), (.k (.d (.int .i64 8)))], some (24, false)⟩ ::
⟨(some 27), .bin .neq (.t 26) (.k (.d (.int .i64 0))), some (24, false)⟩ ::
⟨(some 28), .pick (.t 24) (.k (.d (.bool true))) (.t 27), none⟩ ::
⟨(some 29), .mv (.t 28), none⟩ ::
⟨(some 30), .mv (.t 0), some (29, false)⟩ ::
⟨(some 31), .call (.k (.fn (.func 20) [] [])) [(.t 30)], some (29, false)⟩ ::
⟨(some 32), .pick (.t 29) (.k (.d (.bool true))) (.t 31), none⟩ ::
⟨(some 33), .mv (.t 32), none⟩ ::
⟨(some 34), .mv (.t 7), some (33, false)⟩ ::
⟨(some 35), .load (some 8) (.t 4), some (33, false)⟩ ::
⟨(some 36), .call (.k (.fn (.func 15) [] [])) [(.t 34), (.t 35)], some (33, false)⟩ ::
⟨(some 37), .bin .neq (.t 36) (.k (.d (.int .i64 0))), some (33, false)⟩ ::
⟨(some 38), .pick (.t 33) (.k (.d (.bool true))) (.t 37), none⟩ :: []) (fullB 21) false)
 (.cond (.t 38)
 (.seq
 (.reg [⟨(some 39), .mv (.t 7), none⟩,
⟨(some 40), .eqnil true 0 (.t 39), none⟩,
⟨(some 41), .mv (.t 40), none⟩,
⟨(some 42), .call (.k (.fn (.func 14) [] [])) [], some (41, true)⟩,
⟨(some 43), .pick (.t 41) (.t 42) (.k (.d (.bool false))), none⟩,
⟨(some 6), .mv (.t 43), none⟩] (fullB 6) false)
 .ret)
 .skip))
(.seq
 (.seq
 (.reg [⟨(some 44), .mv (.t 0), none⟩,
⟨(some 45), .call (.k (.fn (.func 21) [] [])) [(.t 44)], none⟩,
⟨(some 46), .index 8 1 false (.t 45) (.k (.d (.int .i64 0))), none⟩,
⟨(some 47), .idxA 8 1 (.t 4) (.k (.d (.int .i64 0))), none⟩,
⟨(some 48), .load none (.t 47), none⟩,
⟨(some 49), .bin .neq (.t 46) (.t 48), none⟩] [0,
1,
3,
0,
8,
31] true)
 (.cond (.t 49)
 (.seq
 (.reg [⟨(some 50), .call (.k (.fn (.func 14) [] [])) [], none⟩,
⟨(some 6), .mv (.t 50), none⟩] (fullB 2) false)
 .ret)
 .skip))
 (.seq
 (.seq
 (.reg [⟨(some 9), .mv (.k (.d (.int .i64 0))), none⟩] (fullB 1) false)
 (.block 0
 (.loop
  (.seq
  (.seq
  (.reg [⟨(some 51), .mv (.t 9), none⟩,
⟨(some 52), .mv (.t 2), none⟩,
⟨(some 53), .len (.t 52), none⟩,
⟨(some 54), .bin .lss (.t 51) (.t 53), none⟩,
⟨(some 55), .mv (.t 54), none⟩,
⟨(some 56), .mv (.t 9), some (55, true)⟩,
⟨(some 57), .bin .lss (.t 56) (.k (.d (.int .i64 100))), some (55, true)⟩,
⟨(some 58), .pick (.t 55) (.t 57) (.k (.d (.bool false))), none⟩,
⟨(some 59), .mv (.t 58), none⟩,
⟨(some 60), .mv (.t 0), some (59, true)⟩,
⟨(some 61), .len (.t 60), some (59, true)⟩,
⟨(some 62), .bin .gtr (.t 61) (.k (.d (.int .i64 0))), some (59, true)⟩,
⟨(some 63), .pick (.t 59) (.t 62) (.k (.d (.bool false))), none⟩] (fullB 13) false)
  (.cond (.t 63)
  .skip
  (.exit 0)))
  (.seq
  (.block 1
  (.seq
   (.reg [⟨(some 66), .mv (.t 0), none⟩,
⟨(some 67), .mv (.t 2), none⟩,
⟨(some 68), .mv (.t 9), none⟩,
⟨(some 69), .idxS 1 (.t 67) (.t 68), none⟩,
⟨(some 70), .load none (.t 69), none⟩,
⟨(some 71), .conv .i64 (.t 70), none⟩,
⟨(some 72), .mv (.t 0), none⟩,
⟨(some 73), .len (.t 72), none⟩,
⟨(some 74), .bin .rem (.t 71) (.t 73), none⟩,
⟨(some 75), .idxS 29 (.t 66) (.t 74), none⟩,
⟨(some 76), .load (some 29) (.t 75), none⟩,
⟨(some 10), .alloc 48 [(.d (.int .u8 0)), (.d (.int .u32 0)), (.d (.int .u32 0)), (.d (.int .u32 0)), (.d (.int .u32 0)), (.d (.int .u32 0)), (.d (.int .u32 0)), (.d (.int .u32 0)), (.d (.int .u32 0)), (.d (.int .u32 0)), (.d (.int .u64 0)), (.d (.int .u32 0)), (.d (.int .u8 0)), (.d (.int .u32 0)), (.d (.int .u8 0)), (.d (.int .u8 0)), (.d (.int .u32 0)), (.d (.int .u32 0)), (.d (.int .u8 0)), (.d (.int .u8 0)), (.d (.int .u64 0)), (.d (.int .u8 0)), (.d (.int .u32 0)), (.d (.int .u8 0)), (.d (.int .u32 0)), (.d (.int .u32 0)), (.d (.int .u32 0)), (.d (.int .u32 0)), (.d .nils)], none⟩,
⟨none, .store 29 (.t 10) (.t 76), none⟩] (fullB 13) false)
   (.seq
   (.reg [⟨(some 77), .fld 2 (.t 10), none⟩,
⟨(some 78), .load (some 8) (.t 77), none⟩,
⟨(some 11), .alloc 25 [(.d (.int .u32 0)), (.d (.int .u32 0)), (.d (.int .u32 0)), (.d (.int .u32 0)), (.d (.int .u32 0)), (.d (.int .u32 0)), (.d (.int .u32 0)), (.d (.int .u32 0))], none⟩,
⟨none, .store 8 (.t 11) (.t 78), none⟩] (fullB 4) false)
   (.seq
   (.reg [⟨(some 79), .fld 0 (.t 10), none⟩,
⟨(some 80), .fld 0 (.t 79), none⟩,
⟨(some 81), .load none (.t 80), none⟩,
⟨(some 82), .fld 0 (.t 10), none⟩,
⟨(some 83), .fld 1 (.t 82), none⟩,
⟨(some 84), .load none (.t 83), none⟩,
⟨(some 85), .idxA 8 1 (.t 11) (.t 81), none⟩,
⟨none, .store 1 (.t 85) (.t 84), none⟩] (fullB 8) false)
   (.reg [⟨(some 86), .mv (.t 7), none⟩,
⟨(some 87), .fld 0 (.t 10), none⟩,
⟨(some 88), .fld 0 (.t 87), none⟩,
⟨(some 89), .load none (.t 88), none⟩,
⟨(some 90), .load (some 8) (.t 11), none⟩,
⟨(some 91), .call (.k (.fn (.func 16) [] [])) [(.t 86), (.t 89), (.t 90)], none⟩] (fullB 6) false)))))
  (.reg [⟨(some 64), .mv (.t 9), none⟩,
⟨(some 65), .bin .add (.t 64) (.k (.d (.int .i64 1))), none⟩,
⟨(some 9), .mv (.t 65), none⟩] (fullB 3) false))))))
 (.seq
 (.reg [⟨(some 92), .mv (.t 7), none⟩,
⟨(some 93), .call (.k (.fn (.func 17) [] [])) [(.t 92)], none⟩,
⟨(some 12), .alloc 25 [(.d (.int .u32 0)), (.d (.int .u32 0)), (.d (.int .u32 0)), (.d (.int .u32 0)), (.d (.int .u32 0)), (.d (.int .u32 0)), (.d (.int .u32 0)), (.d (.int .u32 0))], none⟩,
⟨none, .store 8 (.t 12) (.t 93), none⟩] (fullB 4) false)
 (.seq
 (.seq
  (.reg [⟨(some 13), .mv (.k (.d (.int .i64 0))), none⟩] (fullB 1) false)
  (.block 2
  (.loop
  (.seq
  (.seq
   (.reg [⟨(some 94), .mv (.t 13), none⟩,
⟨(some 95), .mv (.t 0), none⟩,
⟨(some 96), .len (.t 95), none⟩,
⟨(some 97), .bin .lss (.t 94) (.t 96), none⟩] (fullB 4) false)
   (.cond (.t 97)
   .skip
   (.exit 2)))
  (.seq
   (.block 3
   (.seq
   (.reg (⟨(some 100), .load (some 8) (.t 4), none⟩ ::
⟨(some 101), .mv (.t 0), none⟩ ::
⟨(some 102), .mv (.t 13), none⟩ ::
⟨(some 103), .idxS 29 (.t 101) (.t 102), none⟩ ::
⟨(some 104), .fld 0 (.t 103), none⟩ ::
⟨(some 105), .load (some 2) (.t 104), none⟩ ::
⟨(some 106), .call (.k (.fn (.func 22) [] [])) [(.t 100), (.t 105)], none⟩ ::
⟨(some 107), .not (.t 106), none⟩ ::
⟨(some 108), .mv (.t 107), none⟩ ::
⟨(some 109), .mv (.t 0), some (108, true)⟩ ::
⟨(some 110), .mv (.t 13), some (108, true)⟩ ::
⟨(some 111), .idxS 29 (.t 109) (.t 110), some (108, true)⟩ ::
⟨(some 112), .fld 2 (.t 111), some (108, true)⟩ ::
⟨(some 113), .load (some 8) (.t 112), some (108, true)⟩ ::
⟨(some 114), .load (some 8) (.t 12), some (108, true)⟩ ::
⟨(some 115), .call (.k (.fn (.func 23) [] [])) [(.t 113), (.t 114)], some (108, true)⟩ ::
⟨(some 116), .not (.t 115), some (108, true)⟩ ::
⟨(some 117), .pick (.t 108) (.t 116) (.k (.d (.bool false))), none⟩ :: []) (0 ::
0 ::
0 ::
6 ::
14 ::
30 ::
63 ::
127 ::
255 ::
511 ::
511 ::
2047 ::
4095 ::
8191 ::
511 ::
32767 ::
65535 ::
131071 :: []) true)
   (.cond (.t 117)
   (.seq
    (.reg [⟨(some 6), .mv (.k (.d (.bool false))), none⟩] (fullB 1) false)
    .ret)
   .skip)))
   (.reg [⟨(some 98), .mv (.t 13), none⟩,
⟨(some 99), .bin .add (.t 98) (.k (.d (.int .i64 1))), none⟩,
⟨(some 13), .mv (.t 99), none⟩] (fullB 3) false))))))
 (.seq
  (.reg [⟨(some 118), .call (.k (.fn (.func 14) [] [])) [], none⟩,
⟨(some 6), .mv (.t 118), none⟩] (fullB 2) false)
  .ret))))))))
def rv : List RV := [.tmp 6]
/-! live law12_StableSafe: [0, 1, 2, 4, 6, 7, 8, 9, 10, 11, 12, 13, 38, 49, 63, 97, 117] -/
theorem c : cK Try.prog Try.f4.ntmps (Try.f4.body.getD .ret) = some s := by kernel_rfl
theorem b : Try.f4.body = some (Try.f4.body.getD .ret) := by kernel_rfl
theorem r : cRV Try.prog Try.f4.results.toList = some rv := by kernel_rfl
theorem ca : Callable Try.prog 4 = true := by kernel_rfl
theorem enter {args : List SV} {F : Hp} {k nk : Nat} {Q : SV → Hp → Prop} (hargs : SV.oks (fun n => decide (n < k)) args = true) (hF : F.ok (fun n => decide (n < k)) = true) (hN : args.length ≤ 119)
    (h : SW Try.prog 119 k s ⟨argE 0 args, F, k⟩ fun e st' => match e with | .normal => Fin k nk rv Q st' | .ret => Fin k nk rv Q st' | _ => False) : SB Try.prog 4 args F k nk Q :=
  SB.of_body Try.func4 b c r ca hargs hF hN h
end law12_StableSafe
/-! ### tranter.tranterlaw04.VectorRows -/
namespace law04_VectorRows
abbrev f : Nat := 5
def s : SCo := (.seq
(.reg [⟨(some 2), .mv (.k (.d (.bool false))), none⟩] (fullB 1) false)
(.seq
(.seq
(.reg [⟨(some 3), .mv (.t 0), none⟩,
⟨(some 4), .len (.t 3), none⟩,
⟨(some 5), .bin .gtr (.t 4) (.k (.d (.int .i64 60))), none⟩] (fullB 3) false)
(.cond (.t 5)
 (.seq
 (.reg [⟨(some 6), .call (.k (.fn (.func 24) [] [])) [], none⟩,
⟨(some 2), .mv (.t 6), none⟩] (fullB 2) false)
 .ret)
 .skip))
(.seq
(.reg (⟨(some 7), .mv (.t 0), none⟩ ::
⟨(some 8), .call (.k (.fn (.func 25) [] [])) [(.t 7)], none⟩ ::
⟨(some 9), .mv (.t 0), none⟩ ::
⟨(some 10), .call (.k (.fn (.func 26) [] [])) [(.t 9)], none⟩ ::
⟨(some 11), .eqv false [true, true, true, true, true, true, true, true] (.t 8) (.t 10), none⟩ ::
⟨(some 12), .mv (.t 11), none⟩ ::
⟨(some 13), .mv (.t 0), some (12, true)⟩ ::
⟨(some 14), .call (.k (.fn (.func 27) [] [])) [(.t 13)], some (12, true)⟩ ::
⟨(some 15), .mv (.t 0), some (12, true)⟩ ::
⟨(some 16), .call (.k (.fn (.func 28) [] [])) [(.t 15)], some (12, true)⟩ ::
⟨(some 17), .eqv false [true, true, true, true, true, true, true, true] (.t 14) (.t 16), some (12, true)⟩ ::
⟨(some 18), .pick (.t 12) (.t 17) (.k (.d (.bool false))), none⟩ ::
⟨(some 19), .mv (.t 18), none⟩ ::
⟨(some 20), .mv (.t 0), some (19, true)⟩ ::
⟨(some 21), .call (.k (.fn (.func 30) [] [])) [(.t 20)], some (19, true)⟩ ::
⟨(some 22), .mv (.t 0), some (19, true)⟩ ::
⟨(some 23), .call (.k (.fn (.func 31) [] [])) [(.t 22)], some (19, true)⟩ ::
⟨(some 24), .call (.k (.fn (.func 29) [] [])) [(.t 21), (.t 23)], some (19, true)⟩ ::
⟨(some 25), .pick (.t 19) (.t 24) (.k (.d (.bool false))), none⟩ ::
⟨(some 26), .mv (.t 25), none⟩ ::
⟨(some 27), .call (.k (.fn (.func 24) [] [])) [], some (26, true)⟩ ::
⟨(some 28), .pick (.t 26) (.t 27) (.k (.d (.bool false))), none⟩ ::
⟨(some 2), .mv (.t 28), none⟩ :: []) (fullB 23) false)
.ret)))
def rv : List RV := [.tmp 2]
/-! live law04_VectorRows: [0, 2, 5] -/
theorem c : cK Try.prog Try.f5.ntmps (Try.f5.body.getD .ret) = some s := by kernel_rfl
theorem b : Try.f5.body = some (Try.f5.body.getD .ret) := by kernel_rfl
theorem r : cRV Try.prog Try.f5.results.toList = some rv := by kernel_rfl
theorem ca : Callable Try.prog 5 = true := by kernel_rfl
theorem enter {args : List SV} {F : Hp} {k nk : Nat} {Q : SV → Hp → Prop} (hargs : SV.oks (fun n => decide (n < k)) args = true) (hF : F.ok (fun n => decide (n < k)) = true) (hN : args.length ≤ 29)
    (h : SW Try.prog 29 k s ⟨argE 0 args, F, k⟩ fun e st' => match e with | .normal => Fin k nk rv Q st' | .ret => Fin k nk rv Q st' | _ => False) : SB Try.prog 5 args F k nk Q :=
  SB.of_body Try.func5 b c r ca hargs hF hN h
end law04_VectorRows
/-! ### tranter.tranterlaw04.VectorLeast -/
namespace law04_VectorLeast
abbrev f : Nat := 6
def s : SCo := (.seq
(.reg [⟨(some 3), .box 25 (.t 0), none⟩,
⟨(some 4), .box 25 (.t 1), none⟩,
⟨(some 5), .box 25 (.t 2), none⟩,
⟨(some 6), .mv (.k (.d (.bool false))), none⟩] (fullB 4) false)
(.seq
(.reg [⟨(some 9), .load (some 8) (.t 3), none⟩,
⟨(some 10), .load (some 8) (.t 4), none⟩,
⟨(some 11), .bsl 25 8 2 [(.d (.int .u32 0)), (.d (.int .u32 0)), (.d (.int .u32 0)), (.d (.int .u32 0)), (.d (.int .u32 0)), (.d (.int .u32 0)), (.d (.int .u32 0)), (.d (.int .u32 0)), (.d (.int .u32 0)), (.d (.int .u32 0)), (.d (.int .u32 0)), (.d (.int .u32 0)), (.d (.int .u32 0)), (.d (.int .u32 0)), (.d (.int .u32 0)), (.d (.int .u32 0))] [(0, 8, (.t 9)), (8, 8, (.t 10))], none⟩,
⟨(some 12), .call (.k (.fn (.func 25) [] [])) [(.t 11)], none⟩,
⟨(some 13), .load (some 8) (.t 3), none⟩,
⟨(some 14), .load (some 8) (.t 4), none⟩,
⟨(some 15), .bsl 25 8 2 [(.d (.int .u32 0)), (.d (.int .u32 0)), (.d (.int .u32 0)), (.d (.int .u32 0)), (.d (.int .u32 0)), (.d (.int .u32 0)), (.d (.int .u32 0)), (.d (.int .u32 0)), (.d (.int .u32 0)), (.d (.int .u32 0)), (.d (.int .u32 0)), (.d (.int .u32 0)), (.d (.int .u32 0)), (.d (.int .u32 0)), (.d (.int .u32 0)), (.d (.int .u32 0))] [(0, 8, (.t 13)), (8, 8, (.t 14))], none⟩,
⟨(some 16), .call (.k (.fn (.func 27) [] [])) [(.t 15)], none⟩,
⟨(some 7), .alloc 25 [(.d (.int .u32 0)), (.d (.int .u32 0)), (.d (.int .u32 0)), (.d (.int .u32 0)), (.d (.int .u32 0)), (.d (.int .u32 0)), (.d (.int .u32 0)), (.d (.int .u32 0))], none⟩,
⟨(some 8), .alloc 25 [(.d (.int .u32 0)), (.d (.int .u32 0)), (.d (.int .u32 0)), (.d (.int .u32 0)), (.d (.int .u32 0)), (.d (.int .u32 0)), (.d (.int .u32 0)), (.d (.int .u32 0))], none⟩,
⟨none, .store 8 (.t 7) (.t 12), none⟩,
⟨none, .store 8 (.t 8) (.t 16), none⟩] [0,
0,
3,
7,
0,
0,
48,
127,
0,
0,
1023,
2047] true)
(.seq
(.seq
 (.reg (⟨(some 17), .load (some 8) (.t 7), none⟩ ::
⟨(some 18), .load (some 8) (.t 3), none⟩ ::
⟨(some 19), .call (.k (.fn (.func 32) [] [])) [(.t 17), (.t 18)], none⟩ ::
⟨(some 20), .not (.t 19), none⟩ ::
⟨(some 21), .mv (.t 20), none⟩ ::
⟨(some 22), .load (some 8) (.t 7), some (21, false)⟩ ::
⟨(some 23), .load (some 8) (.t 4), some (21, false)⟩ ::
⟨(some 24), .call (.k (.fn (.func 32) [] [])) [(.t 22), (.t 23)], some (21, false)⟩ ::
⟨(some 25), .not (.t 24), some (21, false)⟩ ::
⟨(some 26), .pick (.t 21) (.k (.d (.bool true))) (.t 25), none⟩ ::
⟨(some 27), .mv (.t 26), none⟩ ::
⟨(some 28), .load (some 8) (.t 3), some (27, false)⟩ ::
⟨(some 29), .load (some 8) (.t 8), some (27, false)⟩ ::
⟨(some 30), .call (.k (.fn (.func 32) [] [])) [(.t 28), (.t 29)], some (27, false)⟩ ::
⟨(some 31), .not (.t 30), some (27, false)⟩ ::
⟨(some 32), .pick (.t 27) (.k (.d (.bool true))) (.t 31), none⟩ ::
⟨(some 33), .mv (.t 32), none⟩ ::
⟨(some 34), .load (some 8) (.t 4), some (33, false)⟩ ::
⟨(some 35), .load (some 8) (.t 8), some (33, false)⟩ ::
⟨(some 36), .call (.k (.fn (.func 32) [] [])) [(.t 34), (.t 35)], some (33, false)⟩ ::
⟨(some 37), .not (.t 36), some (33, false)⟩ ::
⟨(some 38), .pick (.t 33) (.k (.d (.bool true))) (.t 37), none⟩ ::
⟨(some 39), .mv (.t 38), none⟩ ::
⟨(some 40), .load (some 8) (.t 4), some (39, false)⟩ ::
⟨(some 41), .load (some 8) (.t 3), some (39, false)⟩ ::
⟨(some 42), .bsl 25 8 2 [(.d (.int .u32 0)), (.d (.int .u32 0)), (.d (.int .u32 0)), (.d (.int .u32 0)), (.d (.int .u32 0)), (.d (.int .u32 0)), (.d (.int .u32 0)), (.d (.int .u32 0)), (.d (.int .u32 0)), (.d (.int .u32 0)), (.d (.int .u32 0)), (.d (.int .u32 0)), (.d (.int .u32 0)), (.d (.int .u32 0)), (.d (.int .u32 0)), (.d (.int .u32 0))] [(0, 8, (.t 40)), (8, 8, (.t 41))], some (39, false)⟩ ::
⟨(some 43), .call (.k (.fn (.func 25) [] [])) [(.t 42)], some (39, false)⟩ ::
⟨(some 44), .load (some 8) (.t 7), some (39, false)⟩ ::
⟨(some 45), .eqv true [true, true, true, true, true, true, true, true] (.t 43) (.t 44), some (39, false)⟩ ::
⟨(some 46), .pick (.t 39) (.k (.d (.bool true))) (.t 45), none⟩ ::
⟨(some 47), .mv (.t 46), none⟩ ::
⟨(some 48), .load (some 8) (.t 4), some (47, false)⟩ ::
⟨(some 49), .load (some 8) (.t 3), some (47, false)⟩ ::
⟨(some 50), .bsl 25 8 2 [(.d (.int .u32 0)), (.d (.int .u32 0)), (.d (.int .u32 0)), (.d (.int .u32 0)), (.d (.int .u32 0)), (.d (.int .u32 0)), (.d (.int .u32 0)), (.d (.int .u32 0)), (.d (.int .u32 0)), (.d (.int .u32 0)), (.d (.int .u32 0)), (.d (.int .u32 0)), (.d (.int .u32 0)), (.d (.int .u32 0)), (.d (.int .u32 0)), (.d (.int .u32 0))] [(0, 8, (.t 48)), (8, 8, (.t 49))], some (47, false)⟩ ::
⟨(some 51), .call (.k (.fn (.func 27) [] [])) [(.t 50)], some (47, false)⟩ ::
⟨(some 52), .load (some 8) (.t 8), some (47, false)⟩ ::
⟨(some 53), .eqv true [true, true, true, true, true, true, true, true] (.t 51) (.t 52), some (47, false)⟩ ::
⟨(some 54), .pick (.t 47) (.k (.d (.bool true))) (.t 53), none⟩ ::
⟨(some 55), .mv (.t 54), none⟩ ::
⟨(some 56), .load (some 8) (.t 3), some (55, false)⟩ ::
⟨(some 57), .load (some 8) (.t 8), some (55, false)⟩ ::
⟨(some 58), .bsl 25 8 2 [(.d (.int .u32 0)), (.d (.int .u32 0)), (.d (.int .u32 0)), (.d (.int .u32 0)), (.d (.int .u32 0)), (.d (.int .u32 0)), (.d (.int .u32 0)), (.d (.int .u32 0)), (.d (.int .u32 0)), (.d (.int .u32 0)), (.d (.int .u32 0)), (.d (.int .u32 0)), (.d (.int .u32 0)), (.d (.int .u32 0)), (.d (.int .u32 0)), (.d (.int .u32 0))] [(0, 8, (.t 56)), (8, 8, (.t 57))], some (55, false)⟩ ::
⟨(some 59), .call (.k (.fn (.func 25) [] [])) [(.t 58)], some (55, false)⟩ ::
⟨(some 60), .load (some 8) (.t 3), some (55, false)⟩ ::
⟨(some 61), .eqv true [true, true, true, true, true, true, true, true] (.t 59) (.t 60), some (55, false)⟩ ::
⟨(some 62), .pick (.t 55) (.k (.d (.bool true))) (.t 61), none⟩ ::
⟨(some 63), .mv (.t 62), none⟩ ::
⟨(some 64), .load (some 8) (.t 3), some (63, false)⟩ ::
⟨(some 65), .load (some 8) (.t 7), some (63, false)⟩ ::
⟨(some 66), .bsl 25 8 2 [(.d (.int .u32 0)), (.d (.int .u32 0)), (.d (.int .u32 0)), (.d (.int .u32 0)), (.d (.int .u32 0)), (.d (.int .u32 0)), (.d (.int .u32 0)), (.d (.int .u32 0)), (.d (.int .u32 0)), (.d (.int .u32 0)), (.d (.int .u32 0)), (.d (.int .u32 0)), (.d (.int .u32 0)), (.d (.int .u32 0)), (.d (.int .u32 0)), (.d (.int .u32 0))] [(0, 8, (.t 64)), (8, 8, (.t 65))], some (63, false)⟩ ::
⟨(some 67), .call (.k (.fn (.func 27) [] [])) [(.t 66)], some (63, false)⟩ ::
⟨(some 68), .load (some 8) (.t 3), some (63, false)⟩ ::
⟨(some 69), .eqv true [true, true, true, true, true, true, true, true] (.t 67) (.t 68), some (63, false)⟩ ::
⟨(some 70), .pick (.t 63) (.k (.d (.bool true))) (.t 69), none⟩ :: []) (0 ::
0 ::
3 ::
7 ::
15 ::
31 ::
31 ::
127 ::
255 ::
511 ::
1023 ::
2047 ::
2047 ::
8191 ::
16383 ::
32767 ::
65535 ::
131071 ::
131071 ::
524287 ::
1048575 ::
2097151 ::
4194303 ::
8388607 ::
8388607 ::
33554431 ::
67108863 ::
8388607 ::
268435455 ::
536870911 ::
1073741823 ::
2147483647 ::
2147483647 ::
8589934591 ::
17179869183 ::
2147483647 ::
68719476735 ::
137438953471 ::
274877906943 ::
549755813887 ::
549755813887 ::
2199023255551 ::
4398046511103 ::
549755813887 ::
17592186044415 ::
35184372088831 ::
70368744177663 ::
140737488355327 ::
140737488355327 ::
562949953421311 ::
1125899906842623 ::
140737488355327 ::
4503599627370495 ::
9007199254740991 :: []) true)
 (.cond (.t 70)
 (.seq
 (.reg [⟨(some 6), .mv (.k (.d (.bool false))), none⟩] (fullB 1) false)
 .ret)
 .skip))
(.seq
 (.seq
 (.reg (⟨(some 71), .load (some 8) (.t 5), none⟩ ::
⟨(some 72), .load (some 8) (.t 3), none⟩ ::
⟨(some 73), .call (.k (.fn (.func 32) [] [])) [(.t 71), (.t 72)], none⟩ ::
⟨(some 74), .mv (.t 73), none⟩ ::
⟨(some 75), .load (some 8) (.t 5), some (74, true)⟩ ::
⟨(some 76), .load (some 8) (.t 4), some (74, true)⟩ ::
⟨(some 77), .call (.k (.fn (.func 32) [] [])) [(.t 75), (.t 76)], some (74, true)⟩ ::
⟨(some 78), .pick (.t 74) (.t 77) (.k (.d (.bool false))), none⟩ ::
⟨(some 79), .mv (.t 78), none⟩ ::
⟨(some 80), .load (some 8) (.t 5), some (79, true)⟩ ::
⟨(some 81), .load (some 8) (.t 7), some (79, true)⟩ ::
⟨(some 82), .call (.k (.fn (.func 32) [] [])) [(.t 80), (.t 81)], some (79, true)⟩ ::
⟨(some 83), .not (.t 82), some (79, true)⟩ ::
⟨(some 84), .pick (.t 79) (.t 83) (.k (.d (.bool false))), none⟩ ::
⟨(some 85), .mv (.t 84), none⟩ ::
⟨(some 86), .load (some 8) (.t 3), some (85, false)⟩ ::
⟨(some 87), .load (some 8) (.t 5), some (85, false)⟩ ::
⟨(some 88), .call (.k (.fn (.func 32) [] [])) [(.t 86), (.t 87)], some (85, false)⟩ ::
⟨(some 89), .mv (.t 88), some (85, false)⟩ ::
⟨(some 90), .load (some 8) (.t 4), some (89, true)⟩ ::
⟨(some 91), .load (some 8) (.t 5), some (89, true)⟩ ::
⟨(some 92), .call (.k (.fn (.func 32) [] [])) [(.t 90), (.t 91)], some (89, true)⟩ ::
⟨(some 93), .pick (.t 89) (.t 92) (.k (.d (.bool false))), some (85, false)⟩ ::
⟨(some 94), .mv (.t 93), some (85, false)⟩ ::
⟨(some 95), .load (some 8) (.t 8), some (94, true)⟩ ::
⟨(some 96), .load (some 8) (.t 5), some (94, true)⟩ ::
⟨(some 97), .call (.k (.fn (.func 32) [] [])) [(.t 95), (.t 96)], some (94, true)⟩ ::
⟨(some 98), .not (.t 97), some (94, true)⟩ ::
⟨(some 99), .pick (.t 94) (.t 98) (.k (.d (.bool false))), some (85, false)⟩ ::
⟨(some 100), .pick (.t 85) (.k (.d (.bool true))) (.t 99), none⟩ :: []) (fullB 30) false)
 (.cond (.t 100)
 (.seq
 (.reg [⟨(some 6), .mv (.k (.d (.bool false))), none⟩] (fullB 1) false)
 .ret)
 .skip))
 (.seq
 (.reg (⟨(some 101), .load (some 8) (.t 7), none⟩ ::
⟨(some 102), .load (some 8) (.t 5), none⟩ ::
⟨(some 103), .bsl 25 8 2 [(.d (.int .u32 0)), (.d (.int .u32 0)), (.d (.int .u32 0)), (.d (.int .u32 0)), (.d (.int .u32 0)), (.d (.int .u32 0)), (.d (.int .u32 0)), (.d (.int .u32 0)), (.d (.int .u32 0)), (.d (.int .u32 0)), (.d (.int .u32 0)), (.d (.int .u32 0)), (.d (.int .u32 0)), (.d (.int .u32 0)), (.d (.int .u32 0)), (.d (.int .u32 0))] [(0, 8, (.t 101)), (8, 8, (.t 102))], none⟩ ::
⟨(some 104), .call (.k (.fn (.func 25) [] [])) [(.t 103)], none⟩ ::
⟨(some 105), .load (some 8) (.t 3), none⟩ ::
⟨(some 106), .load (some 8) (.t 4), none⟩ ::
⟨(some 107), .load (some 8) (.t 5), none⟩ ::
⟨(some 108), .bsl 25 8 3 [(.d (.int .u32 0)), (.d (.int .u32 0)), (.d (.int .u32 0)), (.d (.int .u32 0)), (.d (.int .u32 0)), (.d (.int .u32 0)), (.d (.int .u32 0)), (.d (.int .u32 0)), (.d (.int .u32 0)), (.d (.int .u32 0)), (.d (.int .u32 0)), (.d (.int .u32 0)), (.d (.int .u32 0)), (.d (.int .u32 0)), (.d (.int .u32 0)), (.d (.int .u32 0)), (.d (.int .u32 0)), (.d (.int .u32 0)), (.d (.int .u32 0)), (.d (.int .u32 0)), (.d (.int .u32 0)), (.d (.int .u32 0)), (.d (.int .u32 0)), (.d (.int .u32 0))] [(0, 8, (.t 105)), (8, 8, (.t 106)), (16, 8, (.t 107))], none⟩ ::
⟨(some 109), .call (.k (.fn (.func 25) [] [])) [(.t 108)], none⟩ ::
⟨(some 110), .eqv false [true, true, true, true, true, true, true, true] (.t 104) (.t 109), none⟩ ::
⟨(some 111), .mv (.t 110), none⟩ ::
⟨(some 112), .load (some 8) (.t 3), some (111, true)⟩ ::
⟨(some 113), .load (some 8) (.t 4), some (111, true)⟩ ::
⟨(some 114), .load (some 8) (.t 5), some (111, true)⟩ ::
⟨(some 115), .bsl 25 8 2 [(.d (.int .u32 0)), (.d (.int .u32 0)), (.d (.int .u32 0)), (.d (.int .u32 0)), (.d (.int .u32 0)), (.d (.int .u32 0)), (.d (.int .u32 0)), (.d (.int .u32 0)), (.d (.int .u32 0)), (.d (.int .u32 0)), (.d (.int .u32 0)), (.d (.int .u32 0)), (.d (.int .u32 0)), (.d (.int .u32 0)), (.d (.int .u32 0)), (.d (.int .u32 0))] [(0, 8, (.t 113)), (8, 8, (.t 114))], some (111, true)⟩ ::
⟨(some 116), .call (.k (.fn (.func 25) [] [])) [(.t 115)], some (111, true)⟩ ::
⟨(some 117), .bsl 25 8 2 [(.d (.int .u32 0)), (.d (.int .u32 0)), (.d (.int .u32 0)), (.d (.int .u32 0)), (.d (.int .u32 0)), (.d (.int .u32 0)), (.d (.int .u32 0)), (.d (.int .u32 0)), (.d (.int .u32 0)), (.d (.int .u32 0)), (.d (.int .u32 0)), (.d (.int .u32 0)), (.d (.int .u32 0)), (.d (.int .u32 0)), (.d (.int .u32 0)), (.d (.int .u32 0))] [(0, 8, (.t 112)), (8, 8, (.t 116))], some (111, true)⟩ ::
⟨(some 118), .call (.k (.fn (.func 25) [] [])) [(.t 117)], some (111, true)⟩ ::
⟨(some 119), .load (some 8) (.t 7), some (111, true)⟩ ::
⟨(some 120), .load (some 8) (.t 5), some (111, true)⟩ ::
⟨(some 121), .bsl 25 8 2 [(.d (.int .u32 0)), (.d (.int .u32 0)), (.d (.int .u32 0)), (.d (.int .u32 0)), (.d (.int .u32 0)), (.d (.int .u32 0)), (.d (.int .u32 0)), (.d (.int .u32 0)), (.d (.int .u32 0)), (.d (.int .u32 0)), (.d (.int .u32 0)), (.d (.int .u32 0)), (.d (.int .u32 0)), (.d (.int .u32 0)), (.d (.int .u32 0)), (.d (.int .u32 0))] [(0, 8, (.t 119)), (8, 8, (.t 120))], some (111, true)⟩ ::
⟨(some 122), .call (.k (.fn (.func 25) [] [])) [(.t 121)], some (111, true)⟩ ::
⟨(some 123), .eqv false [true, true, true, true, true, true, true, true] (.t 118) (.t 122), some (111, true)⟩ ::
⟨(some 124), .pick (.t 111) (.t 123) (.k (.d (.bool false))), none⟩ ::
⟨(some 125), .mv (.t 124), none⟩ ::
⟨(some 126), .load (some 8) (.t 8), some (125, true)⟩ ::
⟨(some 127), .load (some 8) (.t 5), some (125, true)⟩ ::
⟨(some 128), .bsl 25 8 2 [(.d (.int .u32 0)), (.d (.int .u32 0)), (.d (.int .u32 0)), (.d (.int .u32 0)), (.d (.int .u32 0)), (.d (.int .u32 0)), (.d (.int .u32 0)), (.d (.int .u32 0)), (.d (.int .u32 0)), (.d (.int .u32 0)), (.d (.int .u32 0)), (.d (.int .u32 0)), (.d (.int .u32 0)), (.d (.int .u32 0)), (.d (.int .u32 0)), (.d (.int .u32 0))] [(0, 8, (.t 126)), (8, 8, (.t 127))], some (125, true)⟩ ::
⟨(some 129), .call (.k (.fn (.func 27) [] [])) [(.t 128)], some (125, true)⟩ ::
⟨(some 130), .load (some 8) (.t 3), some (125, true)⟩ ::
⟨(some 131), .load (some 8) (.t 4), some (125, true)⟩ ::
⟨(some 132), .load (some 8) (.t 5), some (125, true)⟩ ::
⟨(some 133), .bsl 25 8 3 [(.d (.int .u32 0)), (.d (.int .u32 0)), (.d (.int .u32 0)), (.d (.int .u32 0)), (.d (.int .u32 0)), (.d (.int .u32 0)), (.d (.int .u32 0)), (.d (.int .u32 0)), (.d (.int .u32 0)), (.d (.int .u32 0)), (.d (.int .u32 0)), (.d (.int .u32 0)), (.d (.int .u32 0)), (.d (.int .u32 0)), (.d (.int .u32 0)), (.d (.int .u32 0)), (.d (.int .u32 0)), (.d (.int .u32 0)), (.d (.int .u32 0)), (.d (.int .u32 0)), (.d (.int .u32 0)), (.d (.int .u32 0)), (.d (.int .u32 0)), (.d (.int .u32 0))] [(0, 8, (.t 130)), (8, 8, (.t 131)), (16, 8, (.t 132))], some (125, true)⟩ ::
⟨(some 134), .call (.k (.fn (.func 27) [] [])) [(.t 133)], some (125, true)⟩ ::
⟨(some 135), .eqv false [true, true, true, true, true, true, true, true] (.t 129) (.t 134), some (125, true)⟩ ::
⟨(some 136), .pick (.t 125) (.t 135) (.k (.d (.bool false))), none⟩ ::
⟨(some 137), .mv (.t 136), none⟩ ::
⟨(some 138), .load (some 8) (.t 3), some (137, true)⟩ ::
⟨(some 139), .load (some 8) (.t 4), some (137, true)⟩ ::
⟨(some 140), .call (.k (.fn (.func 32) [] [])) [(.t 138), (.t 139)], some (137, true)⟩ ::
⟨(some 141), .load (some 8) (.t 7), some (137, true)⟩ ::
⟨(some 142), .load (some 8) (.t 3), some (137, true)⟩ ::
⟨(some 143), .eqv false [true, true, true, true, true, true, true, true] (.t 141) (.t 142), some (137, true)⟩ ::
⟨(some 144), .eqb false (.t 140) (.t 143), some (137, true)⟩ ::
⟨(some 145), .pick (.t 137) (.t 144) (.k (.d (.bool false))), none⟩ ::
⟨(some 146), .mv (.t 145), none⟩ ::
⟨(some 147), .call (.k (.fn (.func 24) [] [])) [], some (146, true)⟩ ::
⟨(some 148), .pick (.t 146) (.t 147) (.k (.d (.bool false))), none⟩ ::
⟨(some 6), .mv (.t 148), none⟩ :: []) (0 ::
0 ::
3 ::
7 ::
0 ::
0 ::
0 ::
112 ::
255 ::
511 ::
1023 ::
2047 ::
2047 ::
2047 ::
14335 ::
30719 ::
65535 ::
131071 ::
2047 ::
2047 ::
788479 ::
2097151 ::
4194303 ::
8388607 ::
16777215 ::
33554431 ::
33554431 ::
134217727 ::
268435455 ::
33554431 ::
33554431 ::
33554431 ::
3791650815 ::
8589934591 ::
17179869183 ::
34359738367 ::
68719476735 ::
137438953471 ::
137438953471 ::
549755813887 ::
137438953471 ::
137438953471 ::
3435973836799 ::
8796093022207 ::
17592186044415 ::
35184372088831 ::
70368744177663 ::
140737488355327 ::
281474976710655 :: []) true)
 .ret)))))
def rv : List RV := [.tmp 6]
/-! live law04_VectorLeast: [0, 1, 2, 3, 4, 5, 6, 7, 8, 70, 100] -/
theorem c : cK Try.prog Try.f6.ntmps (Try.f6.body.getD .ret) = some s := by kernel_rfl
theorem b : Try.f6.body = some (Try.f6.body.getD .ret) := by kernel_rfl
theorem r : cRV Try.prog Try.f6.results.toList = some rv := by kernel_rfl
theorem ca : Callable Try.prog 6 = true := by kernel_rfl
theorem enter {args : List SV} {F : Hp} {k nk : Nat} {Q : SV → Hp → Prop} (hargs : SV.oks (fun n => decide (n < k)) args = true) (hF : F.ok (fun n => decide (n < k)) = true) (hN : args.length ≤ 149)
    (h : SW Try.prog 149 k s ⟨argE 0 args, F, k⟩ fun e st' => match e with | .normal => Fin k nk rv Q st' | .ret => Fin k nk rv Q st' | _ => False) : SB Try.prog 6 args F k nk Q :=
  SB.of_body Try.func6 b c r ca hargs hF hN h
end law04_VectorLeast
/-! ### tranter.tranterlaw04.VectorCovers -/
namespace law04_VectorCovers
abbrev f : Nat := 7
def s : SCo := (.seq
(.reg [⟨(some 3), .box 25 (.t 0), none⟩,
⟨(some 4), .box 25 (.t 1), none⟩,
⟨(some 5), .box 44 (.t 2), none⟩,
⟨(some 6), .mv (.k (.d (.bool false))), none⟩] (fullB 4) false)
(.seq
(.reg [⟨(some 13), .load (some 8) (.t 3), none⟩,
⟨(some 14), .load (some 2) (.t 5), none⟩,
⟨(some 15), .call (.k (.fn (.func 33) [] [])) [(.t 13), (.t 14)], none⟩,
⟨(some 16), .load (some 8) (.t 4), none⟩,
⟨(some 17), .load (some 2) (.t 5), none⟩,
⟨(some 18), .call (.k (.fn (.func 33) [] [])) [(.t 16), (.t 17)], none⟩,
⟨(some 7), .mv (.t 15), none⟩,
⟨(some 8), .mv (.t 18), none⟩] [0,
0,
3,
0,
0,
31,
63,
127] true)
(.seq
(.seq
 (.reg (⟨(some 19), .load (some 8) (.t 3), none⟩ ::
⟨(some 20), .load (some 8) (.t 4), none⟩ ::
⟨(some 21), .bsl 25 8 2 [(.d (.int .u32 0)), (.d (.int .u32 0)), (.d (.int .u32 0)), (.d (.int .u32 0)), (.d (.int .u32 0)), (.d (.int .u32 0)), (.d (.int .u32 0)), (.d (.int .u32 0)), (.d (.int .u32 0)), (.d (.int .u32 0)), (.d (.int .u32 0)), (.d (.int .u32 0)), (.d (.int .u32 0)), (.d (.int .u32 0)), (.d (.int .u32 0)), (.d (.int .u32 0))] [(0, 8, (.t 19)), (8, 8, (.t 20))], none⟩ ::
⟨(some 22), .call (.k (.fn (.func 25) [] [])) [(.t 21)], none⟩ ::
⟨(some 23), .load (some 2) (.t 5), none⟩ ::
⟨(some 24), .call (.k (.fn (.func 33) [] [])) [(.t 22), (.t 23)], none⟩ ::
⟨(some 25), .mv (.t 7), none⟩ ::
⟨(some 26), .mv (.t 25), none⟩ ::
⟨(some 27), .mv (.t 8), some (26, false)⟩ ::
⟨(some 28), .pick (.t 26) (.k (.d (.bool true))) (.t 27), none⟩ ::
⟨(some 29), .eqb true (.t 24) (.t 28), none⟩ ::
⟨(some 30), .mv (.t 29), none⟩ ::
⟨(some 31), .load (some 8) (.t 3), some (30, false)⟩ ::
⟨(some 32), .load (some 8) (.t 4), some (30, false)⟩ ::
⟨(some 33), .bsl 25 8 2 [(.d (.int .u32 0)), (.d (.int .u32 0)), (.d (.int .u32 0)), (.d (.int .u32 0)), (.d (.int .u32 0)), (.d (.int .u32 0)), (.d (.int .u32 0)), (.d (.int .u32 0)), (.d (.int .u32 0)), (.d (.int .u32 0)), (.d (.int .u32 0)), (.d (.int .u32 0)), (.d (.int .u32 0)), (.d (.int .u32 0)), (.d (.int .u32 0)), (.d (.int .u32 0))] [(0, 8, (.t 31)), (8, 8, (.t 32))], some (30, false)⟩ ::
⟨(some 34), .call (.k (.fn (.func 27) [] [])) [(.t 33)], some (30, false)⟩ ::
⟨(some 35), .load (some 2) (.t 5), some (30, false)⟩ ::
⟨(some 36), .call (.k (.fn (.func 33) [] [])) [(.t 34), (.t 35)], some (30, false)⟩ ::
⟨(some 37), .mv (.t 7), some (30, false)⟩ ::
⟨(some 38), .mv (.t 37), some (30, false)⟩ ::
⟨(some 39), .mv (.t 8), some (38, true)⟩ ::
⟨(some 40), .pick (.t 38) (.t 39) (.k (.d (.bool false))), some (30, false)⟩ ::
⟨(some 41), .eqb true (.t 36) (.t 40), some (30, false)⟩ ::
⟨(some 42), .pick (.t 30) (.k (.d (.bool true))) (.t 41), none⟩ ::
⟨(some 43), .mv (.t 42), none⟩ ::
⟨(some 44), .load (some 8) (.t 3), some (43, false)⟩ ::
⟨(some 45), .load (some 8) (.t 4), some (43, false)⟩ ::
⟨(some 46), .call (.k (.fn (.func 32) [] [])) [(.t 44), (.t 45)], some (43, false)⟩ ::
⟨(some 47), .mv (.t 46), some (43, false)⟩ ::
⟨(some 48), .mv (.t 8), some (47, true)⟩ ::
⟨(some 49), .pick (.t 47) (.t 48) (.k (.d (.bool false))), some (43, false)⟩ ::
⟨(some 50), .mv (.t 49), some (43, false)⟩ ::
⟨(some 51), .mv (.t 7), some (50, true)⟩ ::
⟨(some 52), .not (.t 51), some (50, true)⟩ ::
⟨(some 53), .pick (.t 50) (.t 52) (.k (.d (.bool false))), some (43, false)⟩ ::
⟨(some 54), .pick (.t 43) (.k (.d (.bool true))) (.t 53), none⟩ :: []) (0 ::
0 ::
3 ::
7 ::
0 ::
31 ::
0 ::
127 ::
255 ::
511 ::
1023 ::
2047 ::
4095 ::
4095 ::
16383 ::
32767 ::
4095 ::
131071 ::
4095 ::
524287 ::
1048575 ::
2097151 ::
4194303 ::
8388607 ::
16777215 ::
33554431 ::
33554431 ::
134217727 ::
268435455 ::
536870911 ::
1073741823 ::
2147483647 ::
4294967295 ::
8589934591 ::
17179869183 ::
34359738367 :: []) true)
 (.cond (.t 54)
 (.seq
 (.reg [⟨(some 6), .mv (.k (.d (.bool false))), none⟩] (fullB 1) false)
 .ret)
 .skip))
(.seq
 (.reg [⟨(some 56), .load (some 8) (.t 3), none⟩,
⟨(some 57), .fld 0 (.t 5), none⟩,
⟨(some 58), .load none (.t 57), none⟩,
⟨(some 59), .call (.k (.fn (.func 34) [] [])) [(.t 56), (.t 58)], none⟩,
⟨(some 55), .mv (.t 59), none⟩,
⟨(some 60), .ext 0 (.t 55), none⟩,
⟨(some 61), .ext 1 (.t 55), none⟩,
⟨(some 9), .alloc 44 [(.d (.int .u8 0)), (.d (.int .u32 0))], none⟩,
⟨none, .store 2 (.t 9) (.t 60), none⟩,
⟨(some 10), .mv (.t 61), none⟩] (fullB 10) false)
 (.seq
 (.seq
 (.reg [⟨(some 62), .mv (.t 10), none⟩,
⟨(some 63), .bin .neq (.t 62) (.k (.d (.int .i64 0))), none⟩] (fullB 2) false)
 (.cond (.t 63)
 (.seq
  (.reg [⟨(some 64), .call (.k (.fn (.func 24) [] [])) [], none⟩,
⟨(some 6), .mv (.t 64), none⟩] (fullB 2) false)
  .ret)
 .skip))
 (.seq
 (.reg [⟨(some 66), .load (some 8) (.t 3), none⟩,
⟨(some 67), .load (some 2) (.t 9), none⟩,
⟨(some 68), .call (.k (.fn (.func 35) [] [])) [(.t 66), (.t 67)], none⟩,
⟨(some 65), .mv (.t 68), none⟩,
⟨(some 69), .ext 0 (.t 65), none⟩,
⟨(some 70), .ext 1 (.t 65), none⟩,
⟨(some 11), .alloc 25 [(.d (.int .u32 0)), (.d (.int .u32 0)), (.d (.int .u32 0)), (.d (.int .u32 0)), (.d (.int .u32 0)), (.d (.int .u32 0)), (.d (.int .u32 0)), (.d (.int .u32 0))], none⟩,
⟨none, .store 8 (.t 11) (.t 69), none⟩,
⟨(some 12), .mv (.t 70), none⟩] (fullB 9) false)
 (.seq
 (.reg (⟨(some 71), .mv (.t 12), none⟩ ::
⟨(some 72), .bin .eql (.t 71) (.k (.d (.int .i64 0))), none⟩ ::
⟨(some 73), .mv (.t 72), none⟩ ::
⟨(some 74), .load (some 8) (.t 3), some (73, true)⟩ ::
⟨(some 75), .load (some 2) (.t 9), some (73, true)⟩ ::
⟨(some 76), .call (.k (.fn (.func 33) [] [])) [(.t 74), (.t 75)], some (73, true)⟩ ::
⟨(some 77), .not (.t 76), some (73, true)⟩ ::
⟨(some 78), .pick (.t 73) (.t 77) (.k (.d (.bool false))), none⟩ ::
⟨(some 79), .mv (.t 78), none⟩ ::
⟨(some 80), .load (some 8) (.t 11), some (79, true)⟩ ::
⟨(some 81), .load (some 2) (.t 9), some (79, true)⟩ ::
⟨(some 82), .call (.k (.fn (.func 33) [] [])) [(.t 80), (.t 81)], some (79, true)⟩ ::
⟨(some 83), .pick (.t 79) (.t 82) (.k (.d (.bool false))), none⟩ ::
⟨(some 84), .mv (.t 83), none⟩ ::
⟨(some 85), .load (some 8) (.t 11), some (84, true)⟩ ::
⟨(some 86), .call (.k (.fn (.func 36) [] [])) [(.t 85)], some (84, true)⟩ ::
⟨(some 87), .load (some 8) (.t 3), some (84, true)⟩ ::
⟨(some 88), .call (.k (.fn (.func 36) [] [])) [(.t 87)], some (84, true)⟩ ::
⟨(some 89), .bin .add (.t 88) (.k (.d (.int .u64 1))), some (84, true)⟩ ::
⟨(some 90), .bin .eql (.t 86) (.t 89), some (84, true)⟩ ::
⟨(some 91), .pick (.t 84) (.t 90) (.k (.d (.bool false))), none⟩ ::
⟨(some 92), .mv (.t 91), none⟩ ::
⟨(some 93), .load (some 8) (.t 11), some (92, true)⟩ ::
⟨(some 94), .load (some 8) (.t 3), some (92, true)⟩ ::
⟨(some 95), .call (.k (.fn (.func 32) [] [])) [(.t 93), (.t 94)], some (92, true)⟩ ::
⟨(some 96), .pick (.t 92) (.t 95) (.k (.d (.bool false))), none⟩ ::
⟨(some 97), .mv (.t 96), none⟩ ::
⟨(some 98), .load (some 2) (.t 5), some (97, true)⟩ ::
⟨(some 99), .load (some 2) (.t 9), some (97, true)⟩ ::
⟨(some 100), .eqv false [true, true] (.t 98) (.t 99), some (97, true)⟩ ::
⟨(some 101), .mv (.t 100), some (97, true)⟩ ::
⟨(some 102), .load (some 8) (.t 11), some (101, false)⟩ ::
⟨(some 103), .load (some 2) (.t 5), some (101, false)⟩ ::
⟨(some 104), .call (.k (.fn (.func 33) [] [])) [(.t 102), (.t 103)], some (101, false)⟩ ::
⟨(some 105), .mv (.t 7), some (101, false)⟩ ::
⟨(some 106), .eqb false (.t 104) (.t 105), some (101, false)⟩ ::
⟨(some 107), .pick (.t 101) (.k (.d (.bool true))) (.t 106), some (97, true)⟩ ::
⟨(some 108), .pick (.t 97) (.t 107) (.k (.d (.bool false))), none⟩ ::
⟨(some 109), .mv (.t 108), none⟩ ::
⟨(some 110), .call (.k (.fn (.func 24) [] [])) [], some (109, true)⟩ ::
⟨(some 111), .pick (.t 109) (.t 110) (.k (.d (.bool false))), none⟩ ::
⟨(some 6), .mv (.t 111), none⟩ :: []) (0 ::
1 ::
3 ::
7 ::
7 ::
31 ::
63 ::
127 ::
255 ::
511 ::
511 ::
2047 ::
4095 ::
8191 ::
16383 ::
32767 ::
16383 ::
131071 ::
262143 ::
524287 ::
1048575 ::
2097151 ::
4194303 ::
4194303 ::
16777215 ::
33554431 ::
67108863 ::
134217727 ::
134217727 ::
536870911 ::
1073741823 ::
2147483647 ::
2147483647 ::
8589934591 ::
2147483647 ::
34359738367 ::
68719476735 ::
137438953471 ::
274877906943 ::
549755813887 ::
1099511627775 ::
2199023255551 :: []) true)
 .ret)))))))
def rv : List RV := [.tmp 6]
/-! live law04_VectorCovers: [0, 1, 2, 3, 4, 5, 6, 7, 8, 9, 10, 11, 12, 54, 63] -/
theorem c : cK Try.prog Try.f7.ntmps (Try.f7.body.getD .ret) = some s := by kernel_rfl
theorem b : Try.f7.body = some (Try.f7.body.getD .ret) := by kernel_rfl
theorem r : cRV Try.prog Try.f7.results.toList = some rv := by kernel_rfl
theorem ca : Callable Try.prog 7 = true := by kernel_rfl
theorem enter {args : List SV} {F : Hp} {k nk : Nat} {Q : SV → Hp → Prop} (hargs : SV.oks (fun n => decide (n < k)) args = true) (hF : F.ok (fun n => decide (n < k)) = true) (hN : args.length ≤ 112)
    (h : SW Try.prog 112 k s ⟨argE 0 args, F, k⟩ fun e st' => match e with | .normal => Fin k nk rv Q st' | .ret => Fin k nk rv Q st' | _ => False) : SB Try.prog 7 args F k nk Q :=
  SB.of_body Try.func7 b c r ca hargs hF hN h
end law04_VectorCovers
/-! ### tranter.tranterlaw04.VectorLacks -/
namespace law04_VectorLacks
abbrev f : Nat := 8
def s : SCo := (.seq
(.reg [⟨(some 2), .box 25 (.t 0), none⟩,
⟨(some 3), .box 25 (.t 1), none⟩,
⟨(some 4), .mv (.k (.d (.bool false))), none⟩] (fullB 3) false)
(.seq
(.reg [⟨(some 13), .load (some 8) (.t 2), none⟩,
⟨(some 14), .load (some 8) (.t 3), none⟩,
⟨(some 15), .bsl 25 8 2 [(.d (.int .u32 0)), (.d (.int .u32 0)), (.d (.int .u32 0)), (.d (.int .u32 0)), (.d (.int .u32 0)), (.d (.int .u32 0)), (.d (.int .u32 0)), (.d (.int .u32 0)), (.d (.int .u32 0)), (.d (.int .u32 0)), (.d (.int .u32 0)), (.d (.int .u32 0)), (.d (.int .u32 0)), (.d (.int .u32 0)), (.d (.int .u32 0)), (.d (.int .u32 0))] [(0, 8, (.t 13)), (8, 8, (.t 14))], none⟩,
⟨(some 16), .call (.k (.fn (.func 25) [] [])) [(.t 15)], none⟩,
⟨(some 5), .alloc 25 [(.d (.int .u32 0)), (.d (.int .u32 0)), (.d (.int .u32 0)), (.d (.int .u32 0)), (.d (.int .u32 0)), (.d (.int .u32 0)), (.d (.int .u32 0)), (.d (.int .u32 0))], none⟩,
⟨none, .store 8 (.t 5) (.t 16), none⟩] (fullB 6) false)
(.seq
(.reg [⟨(some 17), .load (some 8) (.t 5), none⟩,
⟨(some 18), .call (.k (.fn (.func 36) [] [])) [(.t 17)], none⟩,
⟨(some 19), .load (some 8) (.t 2), none⟩,
⟨(some 20), .call (.k (.fn (.func 36) [] [])) [(.t 19)], none⟩,
⟨(some 21), .bin .sub (.t 18) (.t 20), none⟩,
⟨(some 6), .mv (.t 21), none⟩] [0,
1,
0,
7,
15,
31] true)
(.seq
 (.reg [⟨(some 23), .load (some 8) (.t 2), none⟩,
⟨(some 24), .load (some 8) (.t 3), none⟩,
⟨(some 25), .call (.k (.fn (.func 37) [] [])) [(.t 23), (.t 24)], none⟩,
⟨(some 22), .mv (.t 25), none⟩,
⟨(some 26), .ext 0 (.t 22), none⟩,
⟨(some 27), .ext 1 (.t 22), none⟩,
⟨(some 7), .mv (.t 26), none⟩,
⟨(some 8), .mv (.t 27), none⟩] (fullB 8) false)
 (.seq
 (.seq
 (.reg [⟨(some 28), .mv (.t 6), none⟩,
⟨(some 29), .bin .gtr (.t 28) (.k (.d (.int .u64 65536))), none⟩] (fullB 2) false)
 (.cond (.t 29)
 (.seq
  (.reg [⟨(some 30), .mv (.t 8), none⟩,
⟨(some 31), .bin .eql (.t 30) (.k (.d (.int .i64 3))), none⟩,
⟨(some 32), .mv (.t 31), none⟩,
⟨(some 33), .mv (.t 7), some (32, true)⟩,
⟨(some 34), .len (.t 33), some (32, true)⟩,
⟨(some 35), .bin .eql (.t 34) (.k (.d (.int .i64 0))), some (32, true)⟩,
⟨(some 36), .pick (.t 32) (.t 35) (.k (.d (.bool false))), none⟩,
⟨(some 37), .mv (.t 36), none⟩,
⟨(some 38), .call (.k (.fn (.func 24) [] [])) [], some (37, true)⟩,
⟨(some 39), .pick (.t 37) (.t 38) (.k (.d (.bool false))), none⟩,
⟨(some 4), .mv (.t 39), none⟩] (fullB 11) false)
  .ret)
 .skip))
 (.seq
 (.seq
 (.reg [⟨(some 40), .mv (.t 8), none⟩,
⟨(some 41), .bin .neq (.t 40) (.k (.d (.int .i64 0))), none⟩,
⟨(some 42), .mv (.t 41), none⟩,
⟨(some 43), .mv (.t 7), some (42, false)⟩,
⟨(some 44), .len (.t 43), some (42, false)⟩,
⟨(some 45), .conv .u64 (.t 44), some (42, false)⟩,
⟨(some 46), .mv (.t 6), some (42, false)⟩,
⟨(some 47), .bin .neq (.t 45) (.t 46), some (42, false)⟩,
⟨(some 48), .pick (.t 42) (.k (.d (.bool true))) (.t 47), none⟩] (fullB 9) false)
 (.cond (.t 48)
  (.seq
  (.reg [⟨(some 4), .mv (.k (.d (.bool false))), none⟩] (fullB 1) false)
  .ret)
  .skip))
 (.seq
 (.seq
  (.reg [⟨(some 49), .mv (.t 6), none⟩,
⟨(some 50), .bin .gtr (.t 49) (.k (.d (.int .u64 300))), none⟩] (fullB 2) false)
  (.cond (.t 50)
  (.seq
  (.reg [⟨(some 51), .call (.k (.fn (.func 24) [] [])) [], none⟩,
⟨(some 4), .mv (.t 51), none⟩] (fullB 2) false)
  .ret)
  .skip))
 (.seq
  (.reg [⟨(some 52), .load (some 8) (.t 2), none⟩,
⟨(some 9), .alloc 25 [(.d (.int .u32 0)), (.d (.int .u32 0)), (.d (.int .u32 0)), (.d (.int .u32 0)), (.d (.int .u32 0)), (.d (.int .u32 0)), (.d (.int .u32 0)), (.d (.int .u32 0))], none⟩,
⟨none, .store 8 (.t 9) (.t 52), none⟩] (fullB 3) false)
  (.seq
  (.seq
  (.reg [⟨(some 10), .mv (.k (.d (.int .i64 0))), none⟩] (fullB 1) false)
  (.block 0
  (.loop
   (.seq
   (.seq
   (.reg [⟨(some 53), .mv (.t 10), none⟩,
⟨(some 54), .mv (.t 7), none⟩,
⟨(some 55), .len (.t 54), none⟩,
⟨(some 56), .bin .lss (.t 53) (.t 55), none⟩] (fullB 4) false)
   (.cond (.t 56)
   .skip
   (.exit 0)))
   (.seq
   (.block 1
   (.seq
    (.seq
    (.reg [⟨(some 59), .load (some 8) (.t 2), none⟩,
⟨(some 60), .mv (.t 7), none⟩,
⟨(some 61), .mv (.t 10), none⟩,
⟨(some 62), .idxS 2 (.t 60) (.t 61), none⟩,
⟨(some 63), .load (some 2) (.t 62), none⟩,
⟨(some 64), .call (.k (.fn (.func 33) [] [])) [(.t 59), (.t 63)], none⟩,
⟨(some 65), .mv (.t 64), none⟩,
⟨(some 66), .load (some 8) (.t 3), some (65, false)⟩,
⟨(some 67), .mv (.t 7), some (65, false)⟩,
⟨(some 68), .mv (.t 10), some (65, false)⟩,
⟨(some 69), .idxS 2 (.t 67) (.t 68), some (65, false)⟩,
⟨(some 70), .load (some 2) (.t 69), some (65, false)⟩,
⟨(some 71), .call (.k (.fn (.func 33) [] [])) [(.t 66), (.t 70)], some (65, false)⟩,
⟨(some 72), .not (.t 71), some (65, false)⟩,
⟨(some 73), .pick (.t 65) (.k (.d (.bool true))) (.t 72), none⟩] [0,
0,
0,
6,
14,
31,
63,
127,
127,
127,
895,
1919,
4095,
8191,
16383] true)
    (.cond (.t 73)
    (.seq
    (.reg [⟨(some 4), .mv (.k (.d (.bool false))), none⟩] (fullB 1) false)
    .ret)
    .skip))
    (.seq
    (.reg [⟨(some 75), .load (some 8) (.t 9), none⟩,
⟨(some 76), .mv (.t 7), none⟩,
⟨(some 77), .mv (.t 10), none⟩,
⟨(some 78), .idxS 2 (.t 76) (.t 77), none⟩,
⟨(some 79), .load (some 2) (.t 78), none⟩,
⟨(some 80), .call (.k (.fn (.func 35) [] [])) [(.t 75), (.t 79)], none⟩,
⟨(some 74), .mv (.t 80), none⟩,
⟨(some 81), .ext 0 (.t 74), none⟩,
⟨(some 82), .ext 1 (.t 74), none⟩,
⟨(some 11), .alloc 25 [(.d (.int .u32 0)), (.d (.int .u32 0)), (.d (.int .u32 0)), (.d (.int .u32 0)), (.d (.int .u32 0)), (.d (.int .u32 0)), (.d (.int .u32 0)), (.d (.int .u32 0))], none⟩,
⟨none, .store 8 (.t 11) (.t 81), none⟩,
⟨(some 12), .mv (.t 82), none⟩] [0,
0,
0,
6,
14,
31,
63,
127,
127,
0,
767,
2047] true)
    (.seq
    (.seq
    (.reg [⟨(some 83), .mv (.t 12), none⟩,
⟨(some 84), .bin .neq (.t 83) (.k (.d (.int .i64 0))), none⟩] (fullB 2) false)
    (.cond (.t 84)
     (.seq
     (.reg [⟨(some 4), .mv (.k (.d (.bool false))), none⟩] (fullB 1) false)
     .ret)
     .skip))
    (.reg [⟨(some 85), .load (some 8) (.t 11), none⟩,
⟨none, .store 8 (.t 9) (.t 85), none⟩] (fullB 2) false)))))
   (.reg [⟨(some 57), .mv (.t 10), none⟩,
⟨(some 58), .bin .add (.t 57) (.k (.d (.int .i64 1))), none⟩,
⟨(some 10), .mv (.t 58), none⟩] (fullB 3) false))))))
  (.seq
  (.reg [⟨(some 86), .load (some 8) (.t 9), none⟩,
⟨(some 87), .load (some 8) (.t 5), none⟩,
⟨(some 88), .eqv false [true, true, true, true, true, true, true, true] (.t 86) (.t 87), none⟩,
⟨(some 89), .mv (.t 88), none⟩,
⟨(some 90), .call (.k (.fn (.func 24) [] [])) [], some (89, true)⟩,
⟨(some 91), .pick (.t 89) (.t 90) (.k (.d (.bool false))), none⟩,
⟨(some 4), .mv (.t 91), none⟩] (fullB 7) false)
  .ret))))))))))
def rv : List RV := [.tmp 4]
/-! live law04_VectorLacks: [0, 1, 2, 3, 4, 5, 6, 7, 8, 9, 10, 11, 12, 29, 48, 50, 56, 73, 84] -/
theorem c : cK Try.prog Try.f8.ntmps (Try.f8.body.getD .ret) = some s := by kernel_rfl
theorem b : Try.f8.body = some (Try.f8.body.getD .ret) := by kernel_rfl
theorem r : cRV Try.prog Try.f8.results.toList = some rv := by kernel_rfl
theorem ca : Callable Try.prog 8 = true := by kernel_rfl
theorem enter {args : List SV} {F : Hp} {k nk : Nat} {Q : SV → Hp → Prop} (hargs : SV.oks (fun n => decide (n < k)) args = true) (hF : F.ok (fun n => decide (n < k)) = true) (hN : args.length ≤ 92)
    (h : SW Try.prog 92 k s ⟨argE 0 args, F, k⟩ fun e st' => match e with | .normal => Fin k nk rv Q st' | .ret => Fin k nk rv Q st' | _ => False) : SB Try.prog 8 args F k nk Q :=
  SB.of_body Try.func8 b c r ca hargs hF hN h
end law04_VectorLacks
/-! ### tranter.tranterlaw04.VectorTells -/
namespace law04_VectorTells
abbrev f : Nat := 9
def s : SCo := (.seq
(.reg [⟨(some 3), .box 25 (.t 0), none⟩,
⟨(some 4), .box 25 (.t 1), none⟩,
⟨(some 5), .box 44 (.t 2), none⟩,
⟨(some 6), .mv (.k (.d (.bool false))), none⟩] (fullB 4) false)
(.seq
(.reg [⟨(some 24), .load (some 8) (.t 3), none⟩,
⟨(some 25), .fld 0 (.t 5), none⟩,
⟨(some 26), .load none (.t 25), none⟩,
⟨(some 27), .call (.k (.fn (.func 34) [] [])) [(.t 24), (.t 26)], none⟩,
⟨(some 23), .mv (.t 27), none⟩,
⟨(some 28), .ext 0 (.t 23), none⟩,
⟨(some 29), .ext 1 (.t 23), none⟩,
⟨(some 7), .alloc 44 [(.d (.int .u8 0)), (.d (.int .u32 0))], none⟩,
⟨none, .store 2 (.t 7) (.t 28), none⟩,
⟨(some 8), .mv (.t 29), none⟩] (fullB 10) false)
(.seq
(.reg [⟨(some 31), .load (some 8) (.t 3), none⟩,
⟨(some 32), .fld 0 (.t 5), none⟩,
⟨(some 33), .load none (.t 32), none⟩,
⟨(some 34), .call (.k (.fn (.func 38) [] [])) [(.t 31), (.t 33)], none⟩,
⟨(some 30), .mv (.t 34), none⟩,
⟨(some 35), .ext 0 (.t 30), none⟩,
⟨(some 36), .ext 1 (.t 30), none⟩,
⟨(some 9), .alloc 44 [(.d (.int .u8 0)), (.d (.int .u32 0))], none⟩,
⟨none, .store 2 (.t 9) (.t 35), none⟩,
⟨(some 10), .mv (.t 36), none⟩] (fullB 10) false)
(.seq
 (.reg [⟨(some 38), .load (some 8) (.t 3), none⟩,
⟨(some 39), .load (some 2) (.t 5), none⟩,
⟨(some 40), .call (.k (.fn (.func 35) [] [])) [(.t 38), (.t 39)], none⟩,
⟨(some 37), .mv (.t 40), none⟩,
⟨(some 41), .ext 0 (.t 37), none⟩,
⟨(some 42), .ext 1 (.t 37), none⟩,
⟨(some 11), .alloc 25 [(.d (.int .u32 0)), (.d (.int .u32 0)), (.d (.int .u32 0)), (.d (.int .u32 0)), (.d (.int .u32 0)), (.d (.int .u32 0)), (.d (.int .u32 0)), (.d (.int .u32 0))], none⟩,
⟨none, .store 8 (.t 11) (.t 41), none⟩,
⟨(some 12), .mv (.t 42), none⟩] (fullB 9) false)
 (.seq
 (.reg [⟨(some 44), .load (some 8) (.t 3), none⟩,
⟨(some 45), .load (some 2) (.t 5), none⟩,
⟨(some 46), .call (.k (.fn (.func 39) [] [])) [(.t 44), (.t 45)], none⟩,
⟨(some 43), .mv (.t 46), none⟩,
⟨(some 47), .ext 0 (.t 43), none⟩,
⟨(some 48), .ext 1 (.t 43), none⟩,
⟨(some 13), .alloc 25 [(.d (.int .u32 0)), (.d (.int .u32 0)), (.d (.int .u32 0)), (.d (.int .u32 0)), (.d (.int .u32 0)), (.d (.int .u32 0)), (.d (.int .u32 0)), (.d (.int .u32 0))], none⟩,
⟨none, .store 8 (.t 13) (.t 47), none⟩,
⟨(some 14), .mv (.t 48), none⟩] (fullB 9) false)
 (.seq
 (.seq
 (.reg (⟨(some 49), .load (some 2) (.t 7), none⟩ ::
⟨(some 50), .load (some 2) (.t 9), none⟩ ::
⟨(some 51), .eqv true [true, true] (.t 49) (.t 50), none⟩ ::
⟨(some 52), .mv (.t 51), none⟩ ::
⟨(some 53), .mv (.t 8), some (52, false)⟩ ::
⟨(some 54), .mv (.t 10), some (52, false)⟩ ::
⟨(some 55), .bin .neq (.t 53) (.t 54), some (52, false)⟩ ::
⟨(some 56), .pick (.t 52) (.k (.d (.bool true))) (.t 55), none⟩ ::
⟨(some 57), .mv (.t 56), none⟩ ::
⟨(some 58), .load (some 8) (.t 11), some (57, false)⟩ ::
⟨(some 59), .load (some 8) (.t 13), some (57, false)⟩ ::
⟨(some 60), .eqv true [true, true, true, true, true, true, true, true] (.t 58) (.t 59), some (57, false)⟩ ::
⟨(some 61), .pick (.t 57) (.k (.d (.bool true))) (.t 60), none⟩ ::
⟨(some 62), .mv (.t 61), none⟩ ::
⟨(some 63), .mv (.t 12), some (62, false)⟩ ::
⟨(some 64), .mv (.t 14), some (62, false)⟩ ::
⟨(some 65), .bin .neq (.t 63) (.t 64), some (62, false)⟩ ::
⟨(some 66), .pick (.t 62) (.k (.d (.bool true))) (.t 65), none⟩ ::
⟨(some 67), .mv (.t 66), none⟩ ::
⟨(some 68), .load (some 8) (.t 3), some (67, false)⟩ ::
⟨(some 69), .load (some 2) (.t 5), some (67, false)⟩ ::
⟨(some 70), .call (.k (.fn (.func 33) [] [])) [(.t 68), (.t 69)], some (67, false)⟩ ::
⟨(some 71), .load (some 8) (.t 3), some (67, false)⟩ ::
⟨(some 72), .load (some 2) (.t 5), some (67, false)⟩ ::
⟨(some 73), .call (.k (.fn (.func 22) [] [])) [(.t 71), (.t 72)], some (67, false)⟩ ::
⟨(some 74), .eqb true (.t 70) (.t 73), some (67, false)⟩ ::
⟨(some 75), .pick (.t 67) (.k (.d (.bool true))) (.t 74), none⟩ ::
⟨(some 76), .mv (.t 75), none⟩ ::
⟨(some 77), .load (some 8) (.t 3), some (76, false)⟩ ::
⟨(some 78), .load (some 8) (.t 4), some (76, false)⟩ ::
⟨(some 79), .call (.k (.fn (.func 32) [] [])) [(.t 77), (.t 78)], some (76, false)⟩ ::
⟨(some 80), .load (some 8) (.t 3), some (76, false)⟩ ::
⟨(some 81), .load (some 8) (.t 4), some (76, false)⟩ ::
⟨(some 82), .call (.k (.fn (.func 23) [] [])) [(.t 80), (.t 81)], some (76, false)⟩ ::
⟨(some 83), .eqb true (.t 79) (.t 82), some (76, false)⟩ ::
⟨(some 84), .pick (.t 76) (.k (.d (.bool true))) (.t 83), none⟩ ::
⟨(some 85), .mv (.t 84), none⟩ ::
⟨(some 86), .load (some 8) (.t 3), some (85, false)⟩ ::
⟨(some 87), .load (some 8) (.t 4), some (85, false)⟩ ::
⟨(some 88), .call (.k (.fn (.func 40) [] [])) [(.t 86), (.t 87)], some (85, false)⟩ ::
⟨(some 89), .load (some 8) (.t 3), some (85, false)⟩ ::
⟨(some 90), .load (some 8) (.t 4), some (85, false)⟩ ::
⟨(some 91), .call (.k (.fn (.func 23) [] [])) [(.t 89), (.t 90)], some (85, false)⟩ ::
⟨(some 92), .not (.t 91), some (85, false)⟩ ::
⟨(some 93), .mv (.t 92), some (85, false)⟩ ::
⟨(some 94), .load (some 8) (.t 4), some (93, true)⟩ ::
⟨(some 95), .load (some 8) (.t 3), some (93, true)⟩ ::
⟨(some 96), .call (.k (.fn (.func 23) [] [])) [(.t 94), (.t 95)], some (93, true)⟩ ::
⟨(some 97), .not (.t 96), some (93, true)⟩ ::
⟨(some 98), .pick (.t 93) (.t 97) (.k (.d (.bool false))), some (85, false)⟩ ::
⟨(some 99), .eqb true (.t 88) (.t 98), some (85, false)⟩ ::
⟨(some 100), .pick (.t 85) (.k (.d (.bool true))) (.t 99), none⟩ ::
⟨(some 101), .mv (.t 100), none⟩ ::
⟨(some 102), .load (some 8) (.t 3), some (101, false)⟩ ::
⟨(some 103), .call (.k (.fn (.func 36) [] [])) [(.t 102)], some (101, false)⟩ ::
⟨(some 104), .load (some 8) (.t 3), some (101, false)⟩ ::
⟨(some 105), .call (.k (.fn (.func 41) [] [])) [(.t 104)], some (101, false)⟩ ::
⟨(some 106), .bin .neq (.t 103) (.t 105), some (101, false)⟩ ::
⟨(some 107), .pick (.t 101) (.k (.d (.bool true))) (.t 106), none⟩ :: []) (0 ::
0 ::
3 ::
7 ::
15 ::
15 ::
63 ::
127 ::
255 ::
511 ::
511 ::
2047 ::
4095 ::
8191 ::
16383 ::
16383 ::
65535 ::
131071 ::
262143 ::
524287 ::
524287 ::
2097151 ::
524287 ::
524287 ::
16777215 ::
33554431 ::
67108863 ::
134217727 ::
268435455 ::
268435455 ::
1073741823 ::
268435455 ::
268435455 ::
8589934591 ::
17179869183 ::
34359738367 ::
68719476735 ::
137438953471 ::
137438953471 ::
549755813887 ::
137438953471 ::
137438953471 ::
4398046511103 ::
8796093022207 ::
17592186044415 ::
35184372088831 ::
35184372088831 ::
140737488355327 ::
281474976710655 ::
562949953421311 ::
1125899906842623 ::
2251799813685247 ::
4503599627370495 ::
9007199254740991 ::
18014398509481983 ::
9007199254740991 ::
72057594037927935 ::
144115188075855871 ::
288230376151711743 :: []) true)
 (.cond (.t 107)
  (.seq
  (.reg [⟨(some 6), .mv (.k (.d (.bool false))), none⟩] (fullB 1) false)
  .ret)
  .skip))
 (.seq
 (.reg [⟨(some 109), .load (some 8) (.t 3), none⟩,
⟨(some 110), .load (some 8) (.t 4), none⟩,
⟨(some 111), .call (.k (.fn (.func 37) [] [])) [(.t 109), (.t 110)], none⟩,
⟨(some 108), .mv (.t 111), none⟩,
⟨(some 112), .ext 0 (.t 108), none⟩,
⟨(some 113), .ext 1 (.t 108), none⟩,
⟨(some 15), .mv (.t 112), none⟩,
⟨(some 16), .mv (.t 113), none⟩] (fullB 8) false)
 (.seq
  (.reg [⟨(some 115), .load (some 8) (.t 3), none⟩,
⟨(some 116), .load (some 8) (.t 4), none⟩,
⟨(some 117), .call (.k (.fn (.func 42) [] [])) [(.t 115), (.t 116)], none⟩,
⟨(some 114), .mv (.t 117), none⟩,
⟨(some 118), .ext 0 (.t 114), none⟩,
⟨(some 119), .ext 1 (.t 114), none⟩,
⟨(some 17), .mv (.t 118), none⟩,
⟨(some 18), .mv (.t 119), none⟩] (fullB 8) false)
  (.seq
  (.reg [⟨(some 121), .load (some 8) (.t 3), none⟩,
⟨(some 122), .call (.k (.fn (.func 43) [] [])) [(.t 121)], none⟩,
⟨(some 120), .mv (.t 122), none⟩,
⟨(some 123), .ext 0 (.t 120), none⟩,
⟨(some 124), .ext 1 (.t 120), none⟩,
⟨(some 19), .mv (.t 123), none⟩,
⟨(some 20), .mv (.t 124), none⟩] (fullB 7) false)
  (.seq
  (.reg [⟨(some 126), .bld [(.d (.int .u32 0)), (.d (.int .u32 0)), (.d (.int .u32 0)), (.d (.int .u32 0)), (.d (.int .u32 0)), (.d (.int .u32 0)), (.d (.int .u32 0)), (.d (.int .u32 0))] [], none⟩,
⟨(some 127), .load (some 8) (.t 3), none⟩,
⟨(some 128), .call (.k (.fn (.func 42) [] [])) [(.t 126), (.t 127)], none⟩,
⟨(some 125), .mv (.t 128), none⟩,
⟨(some 129), .ext 0 (.t 125), none⟩,
⟨(some 130), .ext 1 (.t 125), none⟩,
⟨(some 21), .mv (.t 129), none⟩,
⟨(some 22), .mv (.t 130), none⟩] (fullB 8) false)
  (.seq
  (.reg (⟨(some 131), .mv (.t 15), none⟩ ::
⟨(some 132), .mv (.t 17), none⟩ ::
⟨(some 133), .call (.k (.fn (.func 44) [] [])) [(.t 131), (.t 132)], none⟩ ::
⟨(some 134), .mv (.t 133), none⟩ ::
⟨(some 135), .mv (.t 16), some (134, true)⟩ ::
⟨(some 136), .mv (.t 18), some (134, true)⟩ ::
⟨(some 137), .bin .eql (.t 135) (.t 136), some (134, true)⟩ ::
⟨(some 138), .pick (.t 134) (.t 137) (.k (.d (.bool false))), none⟩ ::
⟨(some 139), .mv (.t 138), none⟩ ::
⟨(some 140), .mv (.t 19), some (139, true)⟩ ::
⟨(some 141), .mv (.t 21), some (139, true)⟩ ::
⟨(some 142), .call (.k (.fn (.func 44) [] [])) [(.t 140), (.t 141)], some (139, true)⟩ ::
⟨(some 143), .pick (.t 139) (.t 142) (.k (.d (.bool false))), none⟩ ::
⟨(some 144), .mv (.t 143), none⟩ ::
⟨(some 145), .mv (.t 20), some (144, true)⟩ ::
⟨(some 146), .mv (.t 22), some (144, true)⟩ ::
⟨(some 147), .bin .eql (.t 145) (.t 146), some (144, true)⟩ ::
⟨(some 148), .pick (.t 144) (.t 147) (.k (.d (.bool false))), none⟩ ::
⟨(some 149), .mv (.t 148), none⟩ ::
⟨(some 150), .call (.k (.fn (.func 24) [] [])) [], some (149, true)⟩ ::
⟨(some 151), .pick (.t 149) (.t 150) (.k (.d (.bool false))), none⟩ ::
⟨(some 6), .mv (.t 151), none⟩ :: []) (fullB 22) false)
  .ret)))))))))))
def rv : List RV := [.tmp 6]
/-! live law04_VectorTells: [0, 1, 2, 3, 4, 5, 6, 7, 8, 9, 10, 11, 12, 13, 14, 15, 16, 17, 18, 19, 20, 21, 22, 107] -/
theorem c : cK Try.prog Try.f9.ntmps (Try.f9.body.getD .ret) = some s := by kernel_rfl
theorem b : Try.f9.body = some (Try.f9.body.getD .ret) := by kernel_rfl
theorem r : cRV Try.prog Try.f9.results.toList = some rv := by kernel_rfl
theorem ca : Callable Try.prog 9 = true := by kernel_rfl
theorem enter {args : List SV} {F : Hp} {k nk : Nat} {Q : SV → Hp → Prop} (hargs : SV.oks (fun n => decide (n < k)) args = true) (hF : F.ok (fun n => decide (n < k)) = true) (hN : args.length ≤ 152)
    (h : SW Try.prog 152 k s ⟨argE 0 args, F, k⟩ fun e st' => match e with | .normal => Fin k nk rv Q st' | .ret => Fin k nk rv Q st' | _ => False) : SB Try.prog 9 args F k nk Q :=
  SB.of_body Try.func9 b c r ca hargs hF hN h
end law04_VectorTells
/-! ### tranter.tranterlaw12.StableGrows -/
namespace law12_StableGrows
abbrev f : Nat := 10
def s : SCo := (.seq
(.reg [⟨(some 5), .box 33 (.t 2), none⟩,
⟨(some 6), .mv (.k (.d (.bool false))), none⟩] (fullB 2) false)
(.seq
(.reg [⟨(some 18), .mv (.t 0), none⟩,
⟨(some 19), .call (.k (.fn (.func 13) [] [])) [(.t 18), (.k (.d (.int .u8 0)))], none⟩,
⟨(some 17), .mv (.t 19), none⟩,
⟨(some 20), .ext 0 (.t 17), none⟩,
⟨(some 21), .ext 1 (.t 17), none⟩,
⟨(some 7), .mv (.t 20), none⟩,
⟨(some 8), .mv (.t 21), none⟩] (fullB 7) false)
(.seq
(.seq
 (.reg [⟨(some 22), .mv (.t 8), none⟩,
⟨(some 23), .bin .neq (.t 22) (.k (.d (.int .i64 0))), none⟩,
⟨(some 24), .mv (.t 23), none⟩,
⟨(some 25), .mv (.t 7), some (24, false)⟩,
⟨(some 26), .eqnil false 0 (.t 25), some (24, false)⟩,
⟨(some 27), .pick (.t 24) (.k (.d (.bool true))) (.t 26), none⟩] (fullB 6) false)
 (.cond (.t 27)
 (.seq
 (.reg [⟨(some 28), .mv (.t 8), none⟩,
⟨(some 29), .bin .neq (.t 28) (.k (.d (.int .i64 0))), none⟩,
⟨(some 30), .mv (.t 29), none⟩,
⟨(some 31), .call (.k (.fn (.func 14) [] [])) [], some (30, true)⟩,
⟨(some 32), .pick (.t 30) (.t 31) (.k (.d (.bool false))), none⟩,
⟨(some 6), .mv (.t 32), none⟩] (fullB 6) false)
 .ret)
 .skip))
(.seq
 (.seq
 (.reg [⟨(some 9), .mv (.k (.d (.int .i64 0))), none⟩] (fullB 1) false)
 (.block 0
 (.loop
 (.seq
  (.seq
  (.reg [⟨(some 33), .mv (.t 9), none⟩,
⟨(some 34), .mv (.t 1), none⟩,
⟨(some 35), .len (.t 34), none⟩,
⟨(some 36), .bin .lss (.t 33) (.t 35), none⟩,
⟨(some 37), .mv (.t 36), none⟩,
⟨(some 38), .mv (.t 9), some (37, true)⟩,
⟨(some 39), .bin .lss (.t 38) (.k (.d (.int .i64 40))), some (37, true)⟩,
⟨(some 40), .pick (.t 37) (.t 39) (.k (.d (.bool false))), none⟩] (fullB 8) false)
  (.cond (.t 40)
  .skip
  (.exit 0)))
  (.seq
  (.block 1
  (.seq
  (.reg [⟨(some 43), .mv (.t 1), none⟩,
⟨(some 44), .mv (.t 9), none⟩,
⟨(some 45), .idxS 10 (.t 43) (.t 44), none⟩,
⟨(some 46), .fld 0 (.t 45), none⟩,
⟨(some 47), .load none (.t 46), none⟩] (fullB 5) false)
  (.cond (.t 47)
   (.reg [⟨(some 48), .mv (.t 7), none⟩,
⟨(some 49), .mv (.t 1), none⟩,
⟨(some 50), .mv (.t 9), none⟩,
⟨(some 51), .idxS 10 (.t 49) (.t 50), none⟩,
⟨(some 52), .fld 2 (.t 51), none⟩,
⟨(some 53), .load (some 8) (.t 52), none⟩,
⟨(some 54), .call (.k (.fn (.func 15) [] [])) [(.t 48), (.t 53)], none⟩] (fullB 7) false)
   (.reg [⟨(some 55), .mv (.t 7), none⟩,
⟨(some 56), .mv (.t 1), none⟩,
⟨(some 57), .mv (.t 9), none⟩,
⟨(some 58), .idxS 10 (.t 56) (.t 57), none⟩,
⟨(some 59), .fld 1 (.t 58), none⟩,
⟨(some 60), .load none (.t 59), none⟩,
⟨(some 61), .mv (.t 1), none⟩,
⟨(some 62), .mv (.t 9), none⟩,
⟨(some 63), .idxS 10 (.t 61) (.t 62), none⟩,
⟨(some 64), .fld 2 (.t 63), none⟩,
⟨(some 65), .load (some 8) (.t 64), none⟩,
⟨(some 66), .call (.k (.fn (.func 16) [] [])) [(.t 55), (.t 60), (.t 65)], none⟩] [0,
0,
0,
6,
14,
30,
0,
0,
192,
448,
960,
2047] true))))
  (.reg [⟨(some 41), .mv (.t 9), none⟩,
⟨(some 42), .bin .add (.t 41) (.k (.d (.int .i64 1))), none⟩,
⟨(some 9), .mv (.t 42), none⟩] (fullB 3) false))))))
 (.seq
 (.reg [⟨(some 67), .mv (.t 7), none⟩,
⟨(some 68), .call (.k (.fn (.func 45) [] [])) [(.t 67)], none⟩,
⟨(some 10), .mv (.t 68), none⟩] (fullB 3) false)
 (.seq
 (.reg [⟨(some 11), .mv (.k (.d (.int .i64 0))), none⟩] (fullB 1) false)
 (.seq
 (.seq
  (.reg [⟨(some 69), .fld 0 (.t 5), none⟩,
⟨(some 70), .load none (.t 69), none⟩] (fullB 2) false)
  (.cond (.t 70)
  (.reg [⟨(some 71), .mv (.t 10), none⟩,
⟨(some 72), .fld 2 (.t 5), none⟩,
⟨(some 73), .load (some 8) (.t 72), none⟩,
⟨(some 74), .call (.k (.fn (.func 15) [] [])) [(.t 71), (.t 73)], none⟩,
⟨(some 11), .mv (.t 74), none⟩] (fullB 5) false)
  (.reg [⟨(some 75), .mv (.t 10), none⟩,
⟨(some 76), .fld 1 (.t 5), none⟩,
⟨(some 77), .load none (.t 76), none⟩,
⟨(some 78), .fld 2 (.t 5), none⟩,
⟨(some 79), .load (some 8) (.t 78), none⟩,
⟨(some 80), .call (.k (.fn (.func 16) [] [])) [(.t 75), (.t 77), (.t 79)], none⟩,
⟨(some 11), .mv (.t 80), none⟩] (fullB 7) false)))
 (.seq
  (.seq
  (.reg [⟨(some 12), .mv (.k (.d (.int .i64 0))), none⟩] (fullB 1) false)
  (.block 2
  (.loop
  (.seq
   (.seq
   (.reg [⟨(some 81), .mv (.t 12), none⟩,
⟨(some 82), .mv (.t 0), none⟩,
⟨(some 83), .bin .lss (.t 81) (.t 82), none⟩] (fullB 3) false)
   (.cond (.t 83)
   .skip
   (.exit 2)))
   (.seq
   (.block 3
   (.seq
   (.reg [⟨(some 87), .mv (.t 7), none⟩,
⟨(some 88), .mv (.t 12), none⟩,
⟨(some 89), .conv .u8 (.t 88), none⟩,
⟨(some 90), .call (.k (.fn (.func 46) [] [])) [(.t 87), (.t 89)], none⟩,
⟨(some 86), .mv (.t 90), none⟩,
⟨(some 91), .ext 0 (.t 86), none⟩,
⟨(some 92), .ext 1 (.t 86), none⟩,
⟨(some 13), .alloc 25 [(.d (.int .u32 0)), (.d (.int .u32 0)), (.d (.int .u32 0)), (.d (.int .u32 0)), (.d (.int .u32 0)), (.d (.int .u32 0)), (.d (.int .u32 0)), (.d (.int .u32 0))], none⟩,
⟨none, .store 8 (.t 13) (.t 91), none⟩,
⟨(some 14), .mv (.t 92), none⟩] (fullB 10) false)
   (.seq
    (.reg [⟨(some 94), .mv (.t 10), none⟩,
⟨(some 95), .mv (.t 12), none⟩,
⟨(some 96), .conv .u8 (.t 95), none⟩,
⟨(some 97), .call (.k (.fn (.func 46) [] [])) [(.t 94), (.t 96)], none⟩,
⟨(some 93), .mv (.t 97), none⟩,
⟨(some 98), .ext 0 (.t 93), none⟩,
⟨(some 99), .ext 1 (.t 93), none⟩,
⟨(some 15), .alloc 25 [(.d (.int .u32 0)), (.d (.int .u32 0)), (.d (.int .u32 0)), (.d (.int .u32 0)), (.d (.int .u32 0)), (.d (.int .u32 0)), (.d (.int .u32 0)), (.d (.int .u32 0))], none⟩,
⟨none, .store 8 (.t 15) (.t 98), none⟩,
⟨(some 16), .mv (.t 99), none⟩] (fullB 10) false)
    (.seq
    (.reg [⟨(some 100), .load (some 8) (.t 15), none⟩,
⟨(some 101), .load (some 8) (.t 13), none⟩,
⟨(some 102), .call (.k (.fn (.func 23) [] [])) [(.t 100), (.t 101)], none⟩,
⟨(some 103), .not (.t 102), none⟩,
⟨(some 104), .mv (.t 103), none⟩,
⟨(some 105), .mv (.t 11), some (104, false)⟩,
⟨(some 106), .bin .neq (.t 105) (.k (.d (.int .i64 0))), some (104, false)⟩,
⟨(some 107), .mv (.t 106), some (104, false)⟩,
⟨(some 108), .load (some 8) (.t 13), some (107, true)⟩,
⟨(some 109), .load (some 8) (.t 15), some (107, true)⟩,
⟨(some 110), .eqv true [true, true, true, true, true, true, true, true] (.t 108) (.t 109), some (107, true)⟩,
⟨(some 111), .pick (.t 107) (.t 110) (.k (.d (.bool false))), some (104, false)⟩,
⟨(some 112), .pick (.t 104) (.k (.d (.bool true))) (.t 111), none⟩] (fullB 13) false)
    (.cond (.t 112)
    (.seq
    (.reg [⟨(some 6), .mv (.k (.d (.bool false))), none⟩] (fullB 1) false)
    .ret)
    .skip)))))
   (.reg [⟨(some 84), .mv (.t 12), none⟩,
⟨(some 85), .bin .add (.t 84) (.k (.d (.int .i64 1))), none⟩,
⟨(some 12), .mv (.t 85), none⟩] (fullB 3) false))))))
  (.seq
  (.reg (⟨(some 113), .mv (.t 10), none⟩ ::
⟨(some 114), .call (.k (.fn (.func 17) [] [])) [(.t 113)], none⟩ ::
⟨(some 115), .mv (.t 7), none⟩ ::
⟨(some 116), .call (.k (.fn (.func 17) [] [])) [(.t 115)], none⟩ ::
⟨(some 117), .call (.k (.fn (.func 23) [] [])) [(.t 114), (.t 116)], none⟩ ::
⟨(some 118), .mv (.t 117), none⟩ ::
⟨(some 119), .mv (.t 11), some (118, true)⟩ ::
⟨(some 120), .bin .eql (.t 119) (.k (.d (.int .i64 0))), some (118, true)⟩ ::
⟨(some 121), .mv (.t 120), some (118, true)⟩ ::
⟨(some 122), .mv (.t 10), some (121, false)⟩ ::
⟨(some 123), .call (.k (.fn (.func 17) [] [])) [(.t 122)], some (121, false)⟩ ::
⟨(some 124), .mv (.t 7), some (121, false)⟩ ::
⟨(some 125), .call (.k (.fn (.func 17) [] [])) [(.t 124)], some (121, false)⟩ ::
⟨(some 126), .eqv false [true, true, true, true, true, true, true, true] (.t 123) (.t 125), some (121, false)⟩ ::
⟨(some 127), .mv (.t 126), some (121, false)⟩ ::
⟨(some 128), .mv (.t 10), some (127, true)⟩ ::
⟨(some 129), .call (.k (.fn (.func 18) [] [])) [(.t 128)], some (127, true)⟩ ::
⟨(some 130), .mv (.t 7), some (127, true)⟩ ::
⟨(some 131), .call (.k (.fn (.func 18) [] [])) [(.t 130)], some (127, true)⟩ ::
⟨(some 132), .bin .eql (.t 129) (.t 131), some (127, true)⟩ ::
⟨(some 133), .pick (.t 127) (.t 132) (.k (.d (.bool false))), some (121, false)⟩ ::
⟨(some 134), .pick (.t 121) (.k (.d (.bool true))) (.t 133), some (118, true)⟩ ::
⟨(some 135), .pick (.t 118) (.t 134) (.k (.d (.bool false))), none⟩ ::
⟨(some 136), .mv (.t 135), none⟩ ::
⟨(some 137), .call (.k (.fn (.func 14) [] [])) [], some (136, true)⟩ ::
⟨(some 138), .pick (.t 136) (.t 137) (.k (.d (.bool false))), none⟩ ::
⟨(some 6), .mv (.t 138), none⟩ :: []) (fullB 27) false)
  .ret)))))))))
def rv : List RV := [.tmp 6]
/-! live law12_StableGrows: [0, 1, 2, 5, 6, 7, 8, 9, 10, 11, 12, 13, 15, 27, 40, 47, 70, 83, 112] -/
theorem c : cK Try.prog Try.f10.ntmps (Try.f10.body.getD .ret) = some s := by kernel_rfl
theorem b : Try.f10.body = some (Try.f10.body.getD .ret) := by kernel_rfl
theorem r : cRV Try.prog Try.f10.results.toList = some rv := by kernel_rfl
theorem ca : Callable Try.prog 10 = true := by kernel_rfl
theorem enter {args : List SV} {F : Hp} {k nk : Nat} {Q : SV → Hp → Prop} (hargs : SV.oks (fun n => decide (n < k)) args = true) (hF : F.ok (fun n => decide (n < k)) = true) (hN : args.length ≤ 139)
    (h : SW Try.prog 139 k s ⟨argE 0 args, F, k⟩ fun e st' => match e with | .normal => Fin k nk rv Q st' | .ret => Fin k nk rv Q st' | _ => False) : SB Try.prog 10 args F k nk Q :=
  SB.of_body Try.func10 b c r ca hargs hF hN h
end law12_StableGrows
/-! ### tranter.tranterlaw12.StablePlays -/
namespace law12_StablePlays
abbrev f : Nat := 11
def s : SCo := (.seq
(.reg [⟨(some 6), .mv (.k (.d (.bool false))), none⟩] (fullB 1) false)
(.seq
(.reg [⟨(some 18), .mv (.t 0), none⟩,
⟨(some 19), .mv (.t 1), none⟩,
⟨(some 20), .call (.k (.fn (.func 13) [] [])) [(.t 18), (.t 19)], none⟩,
⟨(some 17), .mv (.t 20), none⟩,
⟨(some 21), .ext 0 (.t 17), none⟩,
⟨(some 22), .ext 1 (.t 17), none⟩,
⟨(some 7), .mv (.t 21), none⟩,
⟨(some 8), .mv (.t 22), none⟩] (fullB 8) false)
(.seq
(.reg [⟨(some 24), .mv (.t 0), none⟩,
⟨(some 25), .mv (.t 1), none⟩,
⟨(some 26), .call (.k (.fn (.func 47) [] [])) [(.t 24), (.t 25)], none⟩,
⟨(some 23), .mv (.t 26), none⟩,
⟨(some 27), .ext 0 (.t 23), none⟩,
⟨(some 28), .ext 1 (.t 23), none⟩,
⟨(some 9), .alloc 81 [(.d (.int .i64 0)), (.d (.int .u8 0)), (.d (.int .u32 0)), (.d (.int .u32 0)), (.d (.int .u32 0)), (.d (.int .u32 0)), (.d (.int .u32 0)), (.d (.int .u32 0)), (.d (.int .u32 0)), (.d (.int .u32 0)), (.d .nils)], none⟩,
⟨none, .store 11 (.t 9) (.t 27), none⟩,
⟨(some 10), .mv (.t 28), none⟩] (fullB 9) false)
(.seq
 (.seq
 (.reg [⟨(some 29), .mv (.t 8), none⟩,
⟨(some 30), .mv (.t 10), none⟩,
⟨(some 31), .bin .neq (.t 29) (.t 30), none⟩,
⟨(some 32), .mv (.t 31), none⟩,
⟨(some 33), .mv (.t 7), some (32, false)⟩,
⟨(some 34), .eqnil false 0 (.t 33), some (32, false)⟩,
⟨(some 35), .mv (.t 10), some (32, false)⟩,
⟨(some 36), .bin .neq (.t 35) (.k (.d (.int .i64 0))), some (32, false)⟩,
⟨(some 37), .eqb true (.t 34) (.t 36), some (32, false)⟩,
⟨(some 38), .pick (.t 32) (.k (.d (.bool true))) (.t 37), none⟩] (fullB 10) false)
 (.cond (.t 38)
 (.seq
 (.reg [⟨(some 6), .mv (.k (.d (.bool false))), none⟩] (fullB 1) false)
 .ret)
 .skip))
 (.seq
 (.seq
 (.reg [⟨(some 39), .mv (.t 10), none⟩,
⟨(some 40), .bin .neq (.t 39) (.k (.d (.int .i64 0))), none⟩] (fullB 2) false)
 (.cond (.t 40)
 (.seq
  (.reg [⟨(some 41), .call (.k (.fn (.func 14) [] [])) [], none⟩,
⟨(some 6), .mv (.t 41), none⟩] (fullB 2) false)
  .ret)
 .skip))
 (.seq
 (.reg [⟨(some 42), .bld [(.d (.int .u32 0)), (.d (.int .u32 0)), (.d (.int .u32 0)), (.d (.int .u32 0)), (.d (.int .u32 0)), (.d (.int .u32 0)), (.d (.int .u32 0)), (.d (.int .u32 0))] [], none⟩,
⟨(some 11), .alloc 25 [(.d (.int .u32 0)), (.d (.int .u32 0)), (.d (.int .u32 0)), (.d (.int .u32 0)), (.d (.int .u32 0)), (.d (.int .u32 0)), (.d (.int .u32 0)), (.d (.int .u32 0))], none⟩,
⟨none, .store 8 (.t 11) (.t 42), none⟩] (fullB 3) false)
 (.seq
 (.seq
  (.reg [⟨(some 12), .mv (.k (.d (.int .i64 0))), none⟩] (fullB 1) false)
  (.block 0
  (.loop
  (.seq
  (.seq
   (.reg [⟨(some 43), .mv (.t 12), none⟩,
⟨(some 44), .mv (.t 2), none⟩,
⟨(some 45), .len (.t 44), none⟩,
⟨(some 46), .bin .lss (.t 43) (.t 45), none⟩,
⟨(some 47), .mv (.t 46), none⟩,
⟨(some 48), .mv (.t 12), some (47, true)⟩,
⟨(some 49), .bin .lss (.t 48) (.k (.d (.int .i64 60))), some (47, true)⟩,
⟨(some 50), .pick (.t 47) (.t 49) (.k (.d (.bool false))), none⟩] (fullB 8) false)
   (.cond (.t 50)
   .skip
   (.exit 0)))
  (.seq
   (.block 1
   (.seq
   (.reg [⟨(some 53), .mv (.t 7), none⟩,
⟨(some 54), .call (.k (.fn (.func 45) [] [])) [(.t 53)], none⟩,
⟨(some 13), .mv (.t 54), none⟩] (fullB 3) false)
   (.seq
   (.reg [⟨(some 56), .mv (.t 13), none⟩,
⟨(some 57), .load (some 11) (.t 9), none⟩,
⟨(some 58), .mv (.t 2), none⟩,
⟨(some 59), .mv (.t 12), none⟩,
⟨(some 60), .idxS 10 (.t 58) (.t 59), none⟩,
⟨(some 61), .load (some 10) (.t 60), none⟩,
⟨(some 62), .call (.k (.fn (.func 48) [] [])) [(.t 56), (.t 57), (.t 61)], none⟩,
⟨(some 55), .mv (.t 62), none⟩,
⟨(some 63), .ext 0 (.t 55), none⟩,
⟨(some 64), .ext 1 (.t 55), none⟩,
⟨(some 14), .alloc 81 [(.d (.int .i64 0)), (.d (.int .u8 0)), (.d (.int .u32 0)), (.d (.int .u32 0)), (.d (.int .u32 0)), (.d (.int .u32 0)), (.d (.int .u32 0)), (.d (.int .u32 0)), (.d (.int .u32 0)), (.d (.int .u32 0)), (.d .nils)], none⟩,
⟨none, .store 11 (.t 14) (.t 63), none⟩,
⟨(some 15), .mv (.t 64), none⟩] [0,
0,
0,
0,
12,
28,
63,
127,
255,
255,
0,
1535,
4095] true)
   (.seq
    (.seq
    (.reg [⟨(some 65), .mv (.t 15), none⟩,
⟨(some 66), .not (.t 65), none⟩,
⟨(some 67), .mv (.t 66), none⟩,
⟨(some 68), .mv (.t 13), some (67, false)⟩,
⟨(some 69), .load (some 11) (.t 14), some (67, false)⟩,
⟨(some 70), .call (.k (.fn (.func 49) [] [])) [(.t 68), (.t 69)], some (67, false)⟩,
⟨(some 71), .not (.t 70), some (67, false)⟩,
⟨(some 72), .pick (.t 67) (.k (.d (.bool true))) (.t 71), none⟩,
⟨(some 73), .mv (.t 72), none⟩,
⟨(some 74), .mv (.t 7), some (73, false)⟩,
⟨(some 75), .load (some 11) (.t 9), some (73, false)⟩,
⟨(some 76), .call (.k (.fn (.func 49) [] [])) [(.t 74), (.t 75)], some (73, false)⟩,
⟨(some 77), .not (.t 76), some (73, false)⟩,
⟨(some 78), .pick (.t 73) (.k (.d (.bool true))) (.t 77), none⟩] (fullB 14) false)
    (.cond (.t 78)
    (.seq
    (.reg [⟨(some 6), .mv (.k (.d (.bool false))), none⟩] (fullB 1) false)
    .ret)
    .skip))
    (.seq
    (.reg [⟨(some 79), .mv (.t 13), none⟩,
⟨(some 80), .call (.k (.fn (.func 17) [] [])) [(.t 79)], none⟩,
⟨(some 16), .alloc 25 [(.d (.int .u32 0)), (.d (.int .u32 0)), (.d (.int .u32 0)), (.d (.int .u32 0)), (.d (.int .u32 0)), (.d (.int .u32 0)), (.d (.int .u32 0)), (.d (.int .u32 0))], none⟩,
⟨none, .store 8 (.t 16) (.t 80), none⟩] (fullB 4) false)
    (.seq
    (.seq
    (.reg [⟨(some 81), .load (some 8) (.t 16), none⟩,
⟨(some 82), .load (some 8) (.t 11), none⟩,
⟨(some 83), .call (.k (.fn (.func 23) [] [])) [(.t 81), (.t 82)], none⟩,
⟨(some 84), .not (.t 83), none⟩,
⟨(some 85), .mv (.t 84), none⟩,
⟨(some 86), .mv (.t 13), some (85, false)⟩,
⟨(some 87), .call (.k (.fn (.func 50) [] [])) [(.t 86)], some (85, false)⟩,
⟨(some 88), .load (some 8) (.t 16), some (85, false)⟩,
⟨(some 89), .call (.k (.fn (.func 23) [] [])) [(.t 87), (.t 88)], some (85, false)⟩,
⟨(some 90), .not (.t 89), some (85, false)⟩,
⟨(some 91), .pick (.t 85) (.k (.d (.bool true))) (.t 90), none⟩] [0,
0,
3,
7,
15,
31,
63,
31,
255,
511,
1023] true)
    (.cond (.t 91)
     (.seq
     (.reg [⟨(some 6), .mv (.k (.d (.bool false))), none⟩] (fullB 1) false)
     .ret)
     .skip))
    (.seq
    (.reg [⟨(some 92), .load (some 8) (.t 16), none⟩,
⟨none, .store 8 (.t 11) (.t 92), none⟩] (fullB 2) false)
    (.seq
     (.reg [⟨(some 93), .mv (.t 13), none⟩,
⟨(some 7), .mv (.t 93), none⟩] (fullB 2) false)
     (.reg [⟨(some 94), .load (some 11) (.t 14), none⟩,
⟨none, .store 11 (.t 9) (.t 94), none⟩] (fullB 2) false)))))))))
   (.reg [⟨(some 51), .mv (.t 12), none⟩,
⟨(some 52), .bin .add (.t 51) (.k (.d (.int .i64 1))), none⟩,
⟨(some 12), .mv (.t 52), none⟩] (fullB 3) false))))))
 (.seq
  (.reg [⟨(some 95), .call (.k (.fn (.func 14) [] [])) [], none⟩,
⟨(some 6), .mv (.t 95), none⟩] (fullB 2) false)
  .ret))))))))
def rv : List RV := [.tmp 6]
/-! live law12_StablePlays: [0, 1, 2, 6, 7, 8, 9, 10, 11, 12, 13, 14, 15, 16, 38, 40, 50, 78, 91] -/
theorem c : cK Try.prog Try.f11.ntmps (Try.f11.body.getD .ret) = some s := by kernel_rfl
theorem b : Try.f11.body = some (Try.f11.body.getD .ret) := by kernel_rfl
theorem r : cRV Try.prog Try.f11.results.toList = some rv := by kernel_rfl
theorem ca : Callable Try.prog 11 = true := by kernel_rfl
theorem enter {args : List SV} {F : Hp} {k nk : Nat} {Q : SV → Hp → Prop} (hargs : SV.oks (fun n => decide (n < k)) args = true) (hF : F.ok (fun n => decide (n < k)) = true) (hN : args.length ≤ 96)
    (h : SW Try.prog 96 k s ⟨argE 0 args, F, k⟩ fun e st' => match e with | .normal => Fin k nk rv Q st' | .ret => Fin k nk rv Q st' | _ => False) : SB Try.prog 11 args F k nk Q :=
  SB.of_body Try.func11 b c r ca hargs hF hN h
end law12_StablePlays
/-! ### tranter.tranterlaw12.StableNone -/
namespace law12_StableNone
abbrev f : Nat := 12
def s : SCo := (.seq
(.reg [⟨(some 3), .box 25 (.t 1), none⟩,
⟨(some 4), .mv (.k (.d (.bool false))), none⟩] (fullB 2) false)
(.seq
(.reg [⟨(some 5), .mv (.k (.d .nilp)), none⟩] (fullB 1) false)
(.seq
(.reg [⟨(some 11), .mv (.t 5), none⟩,
⟨(some 12), .bld [(.d (.int .i64 0)), (.d (.int .u8 0)), (.d (.int .u32 0)), (.d (.int .u32 0)), (.d (.int .u32 0)), (.d (.int .u32 0)), (.d (.int .u32 0)), (.d (.int .u32 0)), (.d (.int .u32 0)), (.d (.int .u32 0)), (.d (.int .u32 0)), (.d (.int .u32 0)), (.d (.int .u32 0)), (.d (.int .u32 0)), (.d (.int .u32 0)), (.d (.int .u32 0)), (.d (.int .u32 0)), (.d (.int .u32 0)), (.d (.int .u32 0)), (.d (.int .u32 0)), (.d (.int .u32 0)), (.d (.int .u32 0)), (.d (.int .u32 0)), (.d (.int .u32 0)), (.d (.int .u32 0)), (.d (.int .u32 0)), (.d (.int .u32 0)), (.d (.int .u32 0)), (.d (.int .u32 0)), (.d (.int .u32 0)), (.d (.int .u32 0)), (.d (.int .u32 0)), (.d (.int .u32 0)), (.d (.int .u32 0)), (.d (.int .u32 0)), (.d (.int .u32 0)), (.d (.int .u32 0)), (.d (.int .u32 0)), (.d (.int .u32 0)), (.d (.int .u32 0)), (.d (.int .u32 0)), (.d (.int .u32 0)), (.d (.int .u32 0)), (.d (.int .u32 0)), (.d (.int .u32 0)), (.d (.int .u32 0)), (.d (.int .u32 0)), (.d (.int .u32 0)), (.d (.int .u32 0)), (.d (.int .u32 0)), (.d (.int .u32 0)), (.d (.int .u32 0)), (.d (.int .u32 0)), (.d (.int .u32 0)), (.d (.int .u32 0)), (.d (.int .u32 0)), (.d (.int .u32 0)), (.d (.int .u32 0)), (.d (.int .u32 0)), (.d (.int .u32 0)), (.d (.int .u32 0)), (.d (.int .u32 0)), (.d (.int .u32 0)), (.d (.int .u32 0)), (.d (.int .u32 0)), (.d (.int .u32 0)), (.d (.int .u32 0)), (.d (.int .u32 0)), (.d (.int .u32 0)), (.d (.int .u32 0)), (.d (.int .u32 0)), (.d (.int .u32 0)), (.d (.int .u32 0)), (.d (.int .u32 0)), (.d .nilm), (.d .nilm), (.d .nilm), (.d .nilm), (.d .nilm), (.d .nilm), (.d .nilm), (.d .nilm)] [], none⟩,
⟨(some 13), .box 93 (.t 12), none⟩,
⟨(some 14), .bsl 26 1 2 [(.d .nilp), (.d .nilp)] [(0, 1, (.t 11)), (1, 1, (.t 13))], none⟩,
⟨(some 6), .mv (.t 14), none⟩] (fullB 5) false)
(.seq
 (.seq
 (.reg [⟨(some 7), .mv (.k (.d (.int .i64 0))), none⟩] (fullB 1) false)
 (.block 0
 (.loop
 (.seq
  (.seq
  (.reg [⟨(some 15), .mv (.t 7), none⟩,
⟨(some 16), .bin .lss (.t 15) (.k (.d (.int .i64 2))), none⟩] (fullB 2) false)
  (.cond (.t 16)
  .skip
  (.exit 0)))
  (.seq
  (.block 1
  (.seq
  (.reg [⟨(some 19), .mv (.t 6), none⟩,
⟨(some 20), .mv (.t 7), none⟩,
⟨(some 21), .idxS 1 (.t 19) (.t 20), none⟩,
⟨(some 22), .load none (.t 21), none⟩,
⟨(some 8), .mv (.t 22), none⟩] (fullB 5) false)
  (.seq
   (.reg [⟨(some 24), .mv (.t 8), none⟩,
⟨(some 25), .mv (.t 0), none⟩,
⟨(some 26), .call (.k (.fn (.func 46) [] [])) [(.t 24), (.t 25)], none⟩,
⟨(some 23), .mv (.t 26), none⟩,
⟨(some 27), .ext 0 (.t 23), none⟩,
⟨(some 28), .ext 1 (.t 23), none⟩,
⟨(some 9), .alloc 25 [(.d (.int .u32 0)), (.d (.int .u32 0)), (.d (.int .u32 0)), (.d (.int .u32 0)), (.d (.int .u32 0)), (.d (.int .u32 0)), (.d (.int .u32 0)), (.d (.int .u32 0))], none⟩,
⟨none, .store 8 (.t 9) (.t 27), none⟩,
⟨(some 10), .mv (.t 28), none⟩] (fullB 9) false)
   (.seq
   (.reg (⟨(some 29), .mv (.t 10), none⟩ ::
⟨(some 30), .bin .neq (.t 29) (.k (.d (.int .i64 1))), none⟩ ::
⟨(some 31), .mv (.t 30), none⟩ ::
⟨(some 32), .mv (.t 8), some (31, false)⟩ ::
⟨(some 33), .load (some 8) (.t 3), some (31, false)⟩ ::
⟨(some 34), .call (.k (.fn (.func 15) [] [])) [(.t 32), (.t 33)], some (31, false)⟩ ::
⟨(some 35), .bin .neq (.t 34) (.k (.d (.int .i64 1))), some (31, false)⟩ ::
⟨(some 36), .pick (.t 31) (.k (.d (.bool true))) (.t 35), none⟩ ::
⟨(some 37), .mv (.t 36), none⟩ ::
⟨(some 38), .mv (.t 8), some (37, false)⟩ ::
⟨(some 39), .mv (.t 0), some (37, false)⟩ ::
⟨(some 40), .load (some 8) (.t 3), some (37, false)⟩ ::
⟨(some 41), .call (.k (.fn (.func 16) [] [])) [(.t 38), (.t 39), (.t 40)], some (37, false)⟩ ::
⟨(some 42), .bin .neq (.t 41) (.k (.d (.int .i64 1))), some (37, false)⟩ ::
⟨(some 43), .pick (.t 37) (.k (.d (.bool true))) (.t 42), none⟩ ::
⟨(some 44), .mv (.t 43), none⟩ ::
⟨(some 45), .mv (.t 8), some (44, false)⟩ ::
⟨(some 46), .call (.k (.fn (.func 17) [] [])) [(.t 45)], some (44, false)⟩ ::
⟨(some 47), .bld [(.d (.int .u32 0)), (.d (.int .u32 0)), (.d (.int .u32 0)), (.d (.int .u32 0)), (.d (.int .u32 0)), (.d (.int .u32 0)), (.d (.int .u32 0)), (.d (.int .u32 0))] [], some (44, false)⟩ ::
⟨(some 48), .eqv true [true, true, true, true, true, true, true, true] (.t 46) (.t 47), some (44, false)⟩ ::
⟨(some 49), .pick (.t 44) (.k (.d (.bool true))) (.t 48), none⟩ ::
⟨(some 50), .mv (.t 49), none⟩ ::
⟨(some 51), .mv (.t 8), some (50, false)⟩ ::
⟨(some 52), .call (.k (.fn (.func 50) [] [])) [(.t 51)], some (50, false)⟩ ::
⟨(some 53), .bld [(.d (.int .u32 0)), (.d (.int .u32 0)), (.d (.int .u32 0)), (.d (.int .u32 0)), (.d (.int .u32 0)), (.d (.int .u32 0)), (.d (.int .u32 0)), (.d (.int .u32 0))] [], some (50, false)⟩ ::
⟨(some 54), .eqv true [true, true, true, true, true, true, true, true] (.t 52) (.t 53), some (50, false)⟩ ::
⟨(some 55), .pick (.t 50) (.k (.d (.bool true))) (.t 54), none⟩ ::
⟨(some 56), .mv (.t 55), none⟩ ::
⟨(some 57), .mv (.t 8), some (56, false)⟩ ::
⟨(some 58), .call (.k (.fn (.func 18) [] [])) [(.t 57)], some (56, false)⟩ ::
⟨(some 59), .bin .neq (.t 58) (.k (.d (.int .i64 0))), some (56, false)⟩ ::
⟨(some 60), .pick (.t 56) (.k (.d (.bool true))) (.t 59), none⟩ ::
⟨(some 61), .mv (.t 60), none⟩ ::
⟨(some 62), .mv (.t 8), some (61, false)⟩ ::
⟨(some 63), .call (.k (.fn (.func 45) [] [])) [(.t 62)], some (61, false)⟩ ::
⟨(some 64), .eqnil true 0 (.t 63), some (61, false)⟩ ::
⟨(some 65), .pick (.t 61) (.k (.d (.bool true))) (.t 64), none⟩ :: []) (fullB 37) false)
   (.cond (.t 65)
   (.seq
   (.reg [⟨(some 4), .mv (.k (.d (.bool false))), none⟩] (fullB 1) false)
   .ret)
   .skip)))))
  (.reg [⟨(some 17), .mv (.t 7), none⟩,
⟨(some 18), .bin .add (.t 17) (.k (.d (.int .i64 1))), none⟩,
⟨(some 7), .mv (.t 18), none⟩] (fullB 3) false))))))
 (.seq
 (.reg [⟨(some 66), .call (.k (.fn (.func 14) [] [])) [], none⟩,
⟨(some 4), .mv (.t 66), none⟩] (fullB 2) false)
 .ret)))))
def rv : List RV := [.tmp 4]
/-! live law12_StableNone: [0, 1, 3, 4, 5, 6, 7, 8, 10, 16, 65] -/
theorem c : cK Try.prog Try.f12.ntmps (Try.f12.body.getD .ret) = some s := by kernel_rfl
theorem b : Try.f12.body = some (Try.f12.body.getD .ret) := by kernel_rfl
theorem r : cRV Try.prog Try.f12.results.toList = some rv := by kernel_rfl
theorem ca : Callable Try.prog 12 = true := by kernel_rfl
theorem enter {args : List SV} {F : Hp} {k nk : Nat} {Q : SV → Hp → Prop} (hargs : SV.oks (fun n => decide (n < k)) args = true) (hF : F.ok (fun n => decide (n < k)) = true) (hN : args.length ≤ 67)
    (h : SW Try.prog 67 k s ⟨argE 0 args, F, k⟩ fun e st' => match e with | .normal => Fin k nk rv Q st' | .ret => Fin k nk rv Q st' | _ => False) : SB Try.prog 12 args F k nk Q :=
  SB.of_body Try.func12 b c r ca hargs hF hN h
end law12_StableNone
/-! ### tranter.stable.New -/
namespace stable_New
abbrev f : Nat := 13
def s : SCo := (.seq
(.reg [⟨(some 4), .mv (.k (.d .nilp)), none⟩,
⟨(some 5), .mv (.k (.d (.int .i64 0))), none⟩] (fullB 2) false)
(.seq
(.seq
(.reg [⟨(some 6), .mv (.t 0), none⟩,
⟨(some 7), .bin .lss (.t 6) (.k (.d (.int .i64 1))), none⟩,
⟨(some 8), .mv (.t 7), none⟩,
⟨(some 9), .mv (.t 0), some (8, false)⟩,
⟨(some 10), .bin .gtr (.t 9) (.k (.d (.int .i64 8))), some (8, false)⟩,
⟨(some 11), .pick (.t 8) (.k (.d (.bool true))) (.t 10), none⟩,
⟨(some 12), .mv (.t 11), none⟩,
⟨(some 13), .mv (.t 1), some (12, false)⟩,
⟨(some 14), .conv .i64 (.t 13), some (12, false)⟩,
⟨(some 15), .mv (.t 0), some (12, false)⟩,
⟨(some 16), .bin .geq (.t 14) (.t 15), some (12, false)⟩,
⟨(some 17), .pick (.t 12) (.k (.d (.bool true))) (.t 16), none⟩] (fullB 12) false)
(.cond (.t 17)
 (.seq
 (.reg [⟨(some 4), .mv (.k (.d .nilp)), none⟩,
⟨(some 5), .mv (.k (.d (.int .i64 2))), none⟩] (fullB 2) false)
 .ret)
 .skip))
(.seq
(.reg [⟨(some 18), .mv (.t 0), none⟩,
⟨(some 19), .mv (.t 1), none⟩,
⟨(some 20), .bld [(.d (.int .i64 0)), (.d (.int .u8 0)), (.d (.int .u32 0)), (.d (.int .u32 0)), (.d (.int .u32 0)), (.d (.int .u32 0)), (.d (.int .u32 0)), (.d (.int .u32 0)), (.d (.int .u32 0)), (.d (.int .u32 0)), (.d (.int .u32 0)), (.d (.int .u32 0)), (.d (.int .u32 0)), (.d (.int .u32 0)), (.d (.int .u32 0)), (.d (.int .u32 0)), (.d (.int .u32 0)), (.d (.int .u32 0)), (.d (.int .u32 0)), (.d (.int .u32 0)), (.d (.int .u32 0)), (.d (.int .u32 0)), (.d (.int .u32 0)), (.d (.int .u32 0)), (.d (.int .u32 0)), (.d (.int .u32 0)), (.d (.int .u32 0)), (.d (.int .u32 0)), (.d (.int .u32 0)), (.d (.int .u32 0)), (.d (.int .u32 0)), (.d (.int .u32 0)), (.d (.int .u32 0)), (.d (.int .u32 0)), (.d (.int .u32 0)), (.d (.int .u32 0)), (.d (.int .u32 0)), (.d (.int .u32 0)), (.d (.int .u32 0)), (.d (.int .u32 0)), (.d (.int .u32 0)), (.d (.int .u32 0)), (.d (.int .u32 0)), (.d (.int .u32 0)), (.d (.int .u32 0)), (.d (.int .u32 0)), (.d (.int .u32 0)), (.d (.int .u32 0)), (.d (.int .u32 0)), (.d (.int .u32 0)), (.d (.int .u32 0)), (.d (.int .u32 0)), (.d (.int .u32 0)), (.d (.int .u32 0)), (.d (.int .u32 0)), (.d (.int .u32 0)), (.d (.int .u32 0)), (.d (.int .u32 0)), (.d (.int .u32 0)), (.d (.int .u32 0)), (.d (.int .u32 0)), (.d (.int .u32 0)), (.d (.int .u32 0)), (.d (.int .u32 0)), (.d (.int .u32 0)), (.d (.int .u32 0)), (.d (.int .u32 0)), (.d (.int .u32 0)), (.d (.int .u32 0)), (.d (.int .u32 0)), (.d (.int .u32 0)), (.d (.int .u32 0)), (.d (.int .u32 0)), (.d (.int .u32 0)), (.d .nilm), (.d .nilm), (.d .nilm), (.d .nilm), (.d .nilm), (.d .nilm), (.d .nilm), (.d .nilm)] [(0, 1, (.t 18)), (1, 1, (.t 19))], none⟩,
⟨(some 21), .box 93 (.t 20), none⟩,
⟨(some 4), .mv (.t 21), none⟩,
⟨(some 5), .mv (.k (.d (.int .i64 0))), none⟩] (fullB 6) false)
.ret)))
def rv : List RV := [.tmp 4, .tmp 5]
/-! live stable_New: [0, 1, 4, 5, 17] -/
theorem c : cK Try.prog Try.f13.ntmps (Try.f13.body.getD .ret) = some s := by kernel_rfl
theorem b : Try.f13.body = some (Try.f13.body.getD .ret) := by kernel_rfl
theorem r : cRV Try.prog Try.f13.results.toList = some rv := by kernel_rfl
theorem ca : Callable Try.prog 13 = true := by kernel_rfl
theorem enter {args : List SV} {F : Hp} {k nk : Nat} {Q : SV → Hp → Prop} (hargs : SV.oks (fun n => decide (n < k)) args = true) (hF : F.ok (fun n => decide (n < k)) = true) (hN : args.length ≤ 22)
    (h : SW Try.prog 22 k s ⟨argE 0 args, F, k⟩ fun e st' => match e with | .normal => Fin k nk rv Q st' | .ret => Fin k nk rv Q st' | _ => False) : SB Try.prog 13 args F k nk Q :=
  SB.of_body Try.func13 b c r ca hargs hF hN h
end stable_New
/-! ### tranter.tranterlaw12.head -/
namespace law12_head
abbrev f : Nat := 14
def s : SCo := (.seq
(.reg [⟨(some 0), .mv (.k (.d (.bool false))), none⟩] (fullB 1) false)
(.seq
(.reg [⟨(some 13), .call (.k (.fn (.func 13) [] [])) [(.k (.d (.int .i64 2))), (.k (.d (.int .u8 0)))], none⟩,
⟨(some 12), .mv (.t 13), none⟩,
⟨(some 14), .ext 0 (.t 12), none⟩,
⟨(some 15), .ext 1 (.t 12), none⟩,
⟨(some 1), .mv (.t 14), none⟩,
⟨(some 2), .mv (.t 15), none⟩] (fullB 6) false)
(.seq
(.seq
 (.reg [⟨(some 16), .mv (.t 2), none⟩,
⟨(some 17), .bin .neq (.t 16) (.k (.d (.int .i64 0))), none⟩,
⟨(some 18), .mv (.t 17), none⟩,
⟨(some 19), .mv (.t 1), some (18, false)⟩,
⟨(some 20), .eqnil false 0 (.t 19), some (18, false)⟩,
⟨(some 21), .pick (.t 18) (.k (.d (.bool true))) (.t 20), none⟩] (fullB 6) false)
 (.cond (.t 21)
 (.seq
 (.reg [⟨(some 0), .mv (.k (.d (.bool false))), none⟩] (fullB 1) false)
 .ret)
 .skip))
(.seq
 (.reg [⟨(some 22), .mv (.t 1), none⟩,
⟨(some 23), .call (.k (.fn (.func 51) [] [])) [(.k (.d (.int .u32 2))), (.k (.d (.int .u32 0)))], none⟩,
⟨(some 24), .call (.k (.fn (.func 15) [] [])) [(.t 22), (.t 23)], none⟩,
⟨(some 25), .mv (.t 1), none⟩,
⟨(some 26), .call (.k (.fn (.func 51) [] [])) [(.k (.d (.int .u32 1))), (.k (.d (.int .u32 0)))], none⟩,
⟨(some 27), .call (.k (.fn (.func 16) [] [])) [(.t 25), (.k (.d (.int .u8 1))), (.t 26)], none⟩,
⟨(some 28), .mv (.t 1), none⟩,
⟨(some 29), .call (.k (.fn (.func 17) [] [])) [(.t 28)], none⟩,
⟨(some 5), .alloc 25 [(.d (.int .u32 0)), (.d (.int .u32 0)), (.d (.int .u32 0)), (.d (.int .u32 0)), (.d (.int .u32 0)), (.d (.int .u32 0)), (.d (.int .u32 0)), (.d (.int .u32 0))], none⟩,
⟨(some 3), .mv (.t 24), none⟩,
⟨(some 4), .mv (.t 27), none⟩,
⟨none, .store 8 (.t 5) (.t 29), none⟩] (fullB 12) false)
 (.seq
 (.reg [⟨(some 30), .mv (.t 1), none⟩,
⟨(some 31), .call (.k (.fn (.func 51) [] [])) [(.k (.d (.int .u32 2))), (.k (.d (.int .u32 1)))], none⟩,
⟨(some 32), .call (.k (.fn (.func 16) [] [])) [(.t 30), (.k (.d (.int .u8 1))), (.t 31)], none⟩,
⟨(some 33), .mv (.t 1), none⟩,
⟨(some 34), .call (.k (.fn (.func 17) [] [])) [(.t 33)], none⟩,
⟨(some 35), .mv (.t 1), none⟩,
⟨(some 36), .call (.k (.fn (.func 18) [] [])) [(.t 35)], none⟩,
⟨(some 7), .alloc 25 [(.d (.int .u32 0)), (.d (.int .u32 0)), (.d (.int .u32 0)), (.d (.int .u32 0)), (.d (.int .u32 0)), (.d (.int .u32 0)), (.d (.int .u32 0)), (.d (.int .u32 0))], none⟩,
⟨(some 6), .mv (.t 32), none⟩,
⟨none, .store 8 (.t 7) (.t 34), none⟩,
⟨(some 8), .mv (.t 36), none⟩] (fullB 11) false)
 (.seq
 (.reg [⟨(some 37), .mv (.t 1), none⟩,
⟨(some 38), .call (.k (.fn (.func 51) [] [])) [(.k (.d (.int .u32 2))), (.k (.d (.int .u32 1)))], none⟩,
⟨(some 39), .call (.k (.fn (.func 15) [] [])) [(.t 37), (.t 38)], none⟩,
⟨(some 40), .mv (.t 1), none⟩,
⟨(some 41), .call (.k (.fn (.func 17) [] [])) [(.t 40)], none⟩,
⟨(some 42), .mv (.t 1), none⟩,
⟨(some 43), .call (.k (.fn (.func 18) [] [])) [(.t 42)], none⟩,
⟨(some 10), .alloc 25 [(.d (.int .u32 0)), (.d (.int .u32 0)), (.d (.int .u32 0)), (.d (.int .u32 0)), (.d (.int .u32 0)), (.d (.int .u32 0)), (.d (.int .u32 0)), (.d (.int .u32 0))], none⟩,
⟨(some 9), .mv (.t 39), none⟩,
⟨none, .store 8 (.t 10) (.t 41), none⟩,
⟨(some 11), .mv (.t 43), none⟩] (fullB 11) false)
 (.seq
 (.reg (⟨(some 44), .mv (.t 3), none⟩ ::
⟨(some 45), .bin .eql (.t 44) (.k (.d (.int .i64 0))), none⟩ ::
⟨(some 46), .mv (.t 45), none⟩ ::
⟨(some 47), .mv (.t 4), some (46, true)⟩ ::
⟨(some 48), .bin .eql (.t 47) (.k (.d (.int .i64 0))), some (46, true)⟩ ::
⟨(some 49), .pick (.t 46) (.t 48) (.k (.d (.bool false))), none⟩ ::
⟨(some 50), .mv (.t 49), none⟩ ::
⟨(some 51), .load (some 8) (.t 5), some (50, true)⟩ ::
⟨(some 52), .call (.k (.fn (.func 51) [] [])) [(.k (.d (.int .u32 1))), (.k (.d (.int .u32 0)))], some (50, true)⟩ ::
⟨(some 53), .eqv false [true, true, true, true, true, true, true, true] (.t 51) (.t 52), some (50, true)⟩ ::
⟨(some 54), .pick (.t 50) (.t 53) (.k (.d (.bool false))), none⟩ ::
⟨(some 55), .mv (.t 54), none⟩ ::
⟨(some 56), .mv (.t 6), some (55, true)⟩ ::
⟨(some 57), .bin .eql (.t 56) (.k (.d (.int .i64 0))), some (55, true)⟩ ::
⟨(some 58), .pick (.t 55) (.t 57) (.k (.d (.bool false))), none⟩ ::
⟨(some 59), .mv (.t 58), none⟩ ::
⟨(some 60), .load (some 8) (.t 7), some (59, true)⟩ ::
⟨(some 61), .call (.k (.fn (.func 51) [] [])) [(.k (.d (.int .u32 1))), (.k (.d (.int .u32 0)))], some (59, true)⟩ ::
⟨(some 62), .eqv false [true, true, true, true, true, true, true, true] (.t 60) (.t 61), some (59, true)⟩ ::
⟨(some 63), .pick (.t 59) (.t 62) (.k (.d (.bool false))), none⟩ ::
⟨(some 64), .mv (.t 63), none⟩ ::
⟨(some 65), .mv (.t 8), some (64, true)⟩ ::
⟨(some 66), .bin .eql (.t 65) (.k (.d (.int .i64 1))), some (64, true)⟩ ::
⟨(some 67), .pick (.t 64) (.t 66) (.k (.d (.bool false))), none⟩ ::
⟨(some 68), .mv (.t 67), none⟩ ::
⟨(some 69), .mv (.t 9), some (68, true)⟩ ::
⟨(some 70), .bin .eql (.t 69) (.k (.d (.int .i64 0))), some (68, true)⟩ ::
⟨(some 71), .pick (.t 68) (.t 70) (.k (.d (.bool false))), none⟩ ::
⟨(some 72), .mv (.t 71), none⟩ ::
⟨(some 73), .load (some 8) (.t 10), some (72, true)⟩ ::
⟨(some 74), .call (.k (.fn (.func 51) [] [])) [(.k (.d (.int .u32 2))), (.k (.d (.int .u32 1)))], some (72, true)⟩ ::
⟨(some 75), .eqv false [true, true, true, true, true, true, true, true] (.t 73) (.t 74), some (72, true)⟩ ::
⟨(some 76), .pick (.t 72) (.t 75) (.k (.d (.bool false))), none⟩ ::
⟨(some 77), .mv (.t 76), none⟩ ::
⟨(some 78), .mv (.t 11), some (77, true)⟩ ::
⟨(some 79), .bin .eql (.t 78) (.k (.d (.int .i64 0))), some (77, true)⟩ ::
⟨(some 80), .pick (.t 77) (.t 79) (.k (.d (.bool false))), none⟩ ::
⟨(some 81), .mv (.t 80), none⟩ ::
⟨(some 82), .mv (.t 1), some (81, true)⟩ ::
⟨(some 83), .call (.k (.fn (.func 51) [] [])) [(.k (.d (.int .u32 1))), (.k (.d (.int .u32 1)))], some (81, true)⟩ ::
⟨(some 84), .call (.k (.fn (.func 15) [] [])) [(.t 82), (.t 83)], some (81, true)⟩ ::
⟨(some 85), .bin .eql (.t 84) (.k (.d (.int .i64 9))), some (81, true)⟩ ::
⟨(some 86), .pick (.t 81) (.t 85) (.k (.d (.bool false))), none⟩ ::
⟨(some 87), .mv (.t 86), none⟩ ::
⟨(some 88), .mv (.t 1), some (87, true)⟩ ::
⟨(some 89), .call (.k (.fn (.func 51) [] [])) [(.k (.d (.int .u32 0))), (.k (.d (.int .u32 0)))], some (87, true)⟩ ::
⟨(some 90), .call (.k (.fn (.func 16) [] [])) [(.t 88), (.k (.d (.int .u8 2))), (.t 89)], some (87, true)⟩ ::
⟨(some 91), .bin .eql (.t 90) (.k (.d (.int .i64 2))), some (87, true)⟩ ::
⟨(some 92), .pick (.t 87) (.t 91) (.k (.d (.bool false))), none⟩ ::
⟨(some 93), .mv (.t 92), none⟩ ::
⟨(some 94), .mv (.t 1), some (93, true)⟩ ::
⟨(some 95), .call (.k (.fn (.func 51) [] [])) [(.k (.d (.int .u32 9))), (.k (.d (.int .u32 0)))], some (93, true)⟩ ::
⟨(some 96), .call (.k (.fn (.func 16) [] [])) [(.t 94), (.k (.d (.int .u8 0))), (.t 95)], some (93, true)⟩ ::
⟨(some 97), .bin .eql (.t 96) (.k (.d (.int .i64 9))), some (93, true)⟩ ::
⟨(some 98), .pick (.t 93) (.t 97) (.k (.d (.bool false))), none⟩ ::
⟨(some 0), .mv (.t 98), none⟩ :: []) (0 ::
1 ::
3 ::
7 ::
15 ::
31 ::
63 ::
127 ::
127 ::
511 ::
1023 ::
2047 ::
4095 ::
8191 ::
16383 ::
32767 ::
65535 ::
65535 ::
262143 ::
524287 ::
1048575 ::
2097151 ::
4194303 ::
8388607 ::
16777215 ::
33554431 ::
67108863 ::
134217727 ::
268435455 ::
536870911 ::
536870911 ::
2147483647 ::
4294967295 ::
8589934591 ::
17179869183 ::
34359738367 ::
68719476735 ::
137438953471 ::
274877906943 ::
274877906943 ::
1099511627775 ::
2199023255551 ::
4398046511103 ::
8796093022207 ::
17592186044415 ::
17592186044415 ::
70368744177663 ::
140737488355327 ::
281474976710655 ::
562949953421311 ::
1125899906842623 ::
1125899906842623 ::
4503599627370495 ::
9007199254740991 ::
18014398509481983 ::
36028797018963967 :: []) true)
 .ret)))))))
def rv : List RV := [.tmp 0]
/-! live law12_head: [0, 1, 2, 3, 4, 5, 6, 7, 8, 9, 10, 11, 21] -/
theorem c : cK Try.prog Try.f14.ntmps (Try.f14.body.getD .ret) = some s := by kernel_rfl
theorem b : Try.f14.body = some (Try.f14.body.getD .ret) := by kernel_rfl
theorem r : cRV Try.prog Try.f14.results.toList = some rv := by kernel_rfl
theorem ca : Callable Try.prog 14 = true := by kernel_rfl
theorem enter {args : List SV} {F : Hp} {k nk : Nat} {Q : SV → Hp → Prop} (hargs : SV.oks (fun n => decide (n < k)) args = true) (hF : F.ok (fun n => decide (n < k)) = true) (hN : args.length ≤ 99)
    (h : SW Try.prog 99 k s ⟨argE 0 args, F, k⟩ fun e st' => match e with | .normal => Fin k nk rv Q st' | .ret => Fin k nk rv Q st' | _ => False) : SB Try.prog 14 args F k nk Q :=
  SB.of_body Try.func14 b c r ca hargs hF hN h
end law12_head
/-! ### (tranter.stable.Tracker).Has -/
namespace stable_Tracker_Has
abbrev f : Nat := 15
def s : SCo := (.seq
(.reg [⟨(some 3), .box 25 (.t 1), none⟩,
⟨(some 4), .mv (.k (.d (.int .i64 0))), none⟩] (fullB 2) false)
(.seq
(.block 0
(.seq
 (.reg [⟨(some 6), .mv (.t 0), none⟩,
⟨(some 7), .call (.k (.fn (.func 52) [] [])) [(.t 6)], none⟩,
⟨(some 5), .mv (.t 7), none⟩] (fullB 3) false)
 (.cond (.t 5)
 (.seq
 (.reg [⟨(some 4), .mv (.k (.d (.int .i64 1))), none⟩] (fullB 1) false)
 .ret)
 (.seq
 (.reg [⟨(some 9), .mv (.t 0), none⟩,
⟨(some 10), .load (some 8) (.t 3), none⟩,
⟨(some 11), .call (.k (.fn (.func 53) [] [])) [(.t 9), (.t 10)], none⟩,
⟨(some 12), .not (.t 11), none⟩,
⟨(some 8), .mv (.t 12), none⟩] (fullB 5) false)
 (.cond (.t 8)
 (.seq
  (.reg [⟨(some 4), .mv (.k (.d (.int .i64 2))), none⟩] (fullB 1) false)
  .ret)
 (.seq
  (.reg [⟨(some 14), .load (some 8) (.t 3), none⟩,
⟨(some 15), .mv (.t 0), none⟩,
⟨(some 16), .nilc (.t 15), none⟩,
⟨(some 17), .fld 2 (.t 16), none⟩,
⟨(some 18), .load (some 8) (.t 17), none⟩,
⟨(some 19), .call (.k (.fn (.func 32) [] [])) [(.t 14), (.t 18)], none⟩,
⟨(some 20), .not (.t 19), none⟩,
⟨(some 13), .mv (.t 20), none⟩] [0,
0,
2,
6,
14,
31,
63,
127] true)
  (.cond (.t 13)
  (.seq
  (.reg [⟨(some 4), .mv (.k (.d (.int .i64 9))), none⟩] (fullB 1) false)
  .ret)
  .skip)))))))
(.seq
(.reg [⟨(some 21), .mv (.t 0), none⟩,
⟨(some 22), .load (some 8) (.t 3), none⟩,
⟨(some 23), .nilc (.t 21), none⟩,
⟨(some 24), .fld 2 (.t 23), none⟩,
⟨none, .store 8 (.t 24) (.t 22), none⟩] (fullB 5) false)
(.seq
 (.reg [⟨(some 25), .mv (.t 0), none⟩,
⟨(some 26), .call (.k (.fn (.func 54) [] [])) [(.t 25)], none⟩] (fullB 2) false)
 (.seq
 (.reg [⟨(some 4), .mv (.k (.d (.int .i64 0))), none⟩] (fullB 1) false)
 .ret)))))
def rv : List RV := [.tmp 4]
/-! live stable_Tracker_Has: [0, 1, 3, 4, 5, 8, 13] -/
theorem c : cK Try.prog Try.f15.ntmps (Try.f15.body.getD .ret) = some s := by kernel_rfl
theorem b : Try.f15.body = some (Try.f15.body.getD .ret) := by kernel_rfl
theorem r : cRV Try.prog Try.f15.results.toList = some rv := by kernel_rfl
theorem ca : Callable Try.prog 15 = true := by kernel_rfl
theorem enter {args : List SV} {F : Hp} {k nk : Nat} {Q : SV → Hp → Prop} (hargs : SV.oks (fun n => decide (n < k)) args = true) (hF : F.ok (fun n => decide (n < k)) = true) (hN : args.length ≤ 27)
    (h : SW Try.prog 27 k s ⟨argE 0 args, F, k⟩ fun e st' => match e with | .normal => Fin k nk rv Q st' | .ret => Fin k nk rv Q st' | _ => False) : SB Try.prog 15 args F k nk Q :=
  SB.of_body Try.func15 b c r ca hargs hF hN h
end stable_Tracker_Has
/-! ### (tranter.stable.Tracker).Hear -/
namespace stable_Tracker_Hear
abbrev f : Nat := 16
def s : SCo := (.seq
(.reg [⟨(some 5), .box 25 (.t 2), none⟩,
⟨(some 6), .mv (.k (.d (.int .i64 0))), none⟩] (fullB 2) false)
(.seq
(.block 0
(.seq
 (.reg [⟨(some 8), .mv (.t 0), none⟩,
⟨(some 9), .call (.k (.fn (.func 52) [] [])) [(.t 8)], none⟩,
⟨(some 7), .mv (.t 9), none⟩] (fullB 3) false)
 (.cond (.t 7)
 (.seq
 (.reg [⟨(some 6), .mv (.k (.d (.int .i64 1))), none⟩] (fullB 1) false)
 .ret)
 (.seq
 (.reg [⟨(some 11), .mv (.t 1), none⟩,
⟨(some 12), .conv .i64 (.t 11), none⟩,
⟨(some 13), .mv (.t 0), none⟩,
⟨(some 14), .nilc (.t 13), none⟩,
⟨(some 15), .fld 0 (.t 14), none⟩,
⟨(some 16), .load none (.t 15), none⟩,
⟨(some 17), .bin .geq (.t 12) (.t 16), none⟩,
⟨(some 18), .mv (.t 17), none⟩,
⟨(some 19), .mv (.t 0), some (18, false)⟩,
⟨(some 20), .load (some 8) (.t 5), some (18, false)⟩,
⟨(some 21), .call (.k (.fn (.func 53) [] [])) [(.t 19), (.t 20)], some (18, false)⟩,
⟨(some 22), .not (.t 21), some (18, false)⟩,
⟨(some 23), .pick (.t 18) (.k (.d (.bool true))) (.t 22), none⟩,
⟨(some 10), .mv (.t 23), none⟩] (fullB 14) false)
 (.cond (.t 10)
 (.seq
  (.reg [⟨(some 6), .mv (.k (.d (.int .i64 2))), none⟩] (fullB 1) false)
  .ret)
 (.seq
  (.reg (⟨(some 25), .mv (.t 1), none⟩ ::
⟨(some 26), .mv (.t 0), none⟩ ::
⟨(some 27), .nilc (.t 26), none⟩ ::
⟨(some 28), .fld 1 (.t 27), none⟩ ::
⟨(some 29), .load none (.t 28), none⟩ ::
⟨(some 30), .bin .eql (.t 25) (.t 29), none⟩ ::
⟨(some 31), .mv (.t 30), none⟩ ::
⟨(some 32), .mv (.t 0), some (31, true)⟩ ::
⟨(some 33), .nilc (.t 32), some (31, true)⟩ ::
⟨(some 34), .fld 2 (.t 33), some (31, true)⟩ ::
⟨(some 35), .load (some 8) (.t 34), some (31, true)⟩ ::
⟨(some 36), .load (some 8) (.t 5), some (31, true)⟩ ::
⟨(some 37), .call (.k (.fn (.func 32) [] [])) [(.t 35), (.t 36)], some (31, true)⟩ ::
⟨(some 38), .not (.t 37), some (31, true)⟩ ::
⟨(some 39), .pick (.t 31) (.t 38) (.k (.d (.bool false))), none⟩ ::
⟨(some 24), .mv (.t 39), none⟩ :: []) (0 ::
0 ::
2 ::
6 ::
14 ::
31 ::
63 ::
127 ::
255 ::
511 ::
1023 ::
127 ::
4095 ::
8191 ::
16383 ::
32767 :: []) true)
  (.cond (.t 24)
  (.seq
  (.reg [⟨(some 6), .mv (.k (.d (.int .i64 9))), none⟩] (fullB 1) false)
  .ret)
  (.seq
  (.reg [⟨(some 41), .mv (.t 1), none⟩,
⟨(some 42), .mv (.t 0), none⟩,
⟨(some 43), .nilc (.t 42), none⟩,
⟨(some 44), .fld 1 (.t 43), none⟩,
⟨(some 45), .load none (.t 44), none⟩,
⟨(some 46), .bin .eql (.t 41) (.t 45), none⟩,
⟨(some 40), .mv (.t 46), none⟩] (fullB 7) false)
  (.cond (.t 40)
  (.seq
   (.reg [⟨(some 6), .mv (.k (.d (.int .i64 0))), none⟩] (fullB 1) false)
   .ret)
  .skip)))))))))
(.seq
(.seq
 (.reg [⟨(some 47), .mv (.t 0), none⟩,
⟨(some 48), .mv (.t 1), none⟩,
⟨(some 49), .nilc (.t 47), none⟩,
⟨(some 50), .fld 74 (.t 49), none⟩,
⟨(some 51), .idxA 8 1 (.t 50) (.t 48), none⟩,
⟨(some 52), .load none (.t 51), none⟩,
⟨(some 53), .eqnil false 1 (.t 52), none⟩] (fullB 7) false)
 (.cond (.t 53)
 (.reg [⟨(some 54), .mv (.t 0), none⟩,
⟨(some 55), .mv (.t 1), none⟩,
⟨(some 56), .mkm, none⟩,
⟨(some 57), .nilc (.t 54), none⟩,
⟨(some 58), .fld 74 (.t 57), none⟩,
⟨(some 59), .idxA 8 1 (.t 58) (.t 55), none⟩,
⟨none, .store 1 (.t 59) (.t 56), none⟩] (fullB 7) false)
 .skip))
(.seq
 (.reg [⟨(some 60), .mv (.t 0), none⟩,
⟨(some 61), .mv (.t 1), none⟩,
⟨(some 62), .nilc (.t 60), none⟩,
⟨(some 63), .fld 74 (.t 62), none⟩,
⟨(some 64), .idxA 8 1 (.t 63) (.t 61), none⟩,
⟨(some 65), .load none (.t 64), none⟩,
⟨(some 66), .load (some 8) (.t 5), none⟩,
⟨none, .mset [true, true, true, true, true, true, true, true] true (.t 65) (.t 66) (.k (.d (.int .i64 1))), none⟩] [0,
0,
1,
5,
15,
31,
0,
127] true)
 (.seq
 (.reg [⟨(some 67), .mv (.t 0), none⟩,
⟨(some 68), .call (.k (.fn (.func 54) [] [])) [(.t 67)], none⟩] (fullB 2) false)
 (.seq
 (.reg [⟨(some 6), .mv (.k (.d (.int .i64 0))), none⟩] (fullB 1) false)
 .ret))))))
def rv : List RV := [.tmp 6]
/-! live stable_Tracker_Hear: [0, 1, 2, 5, 6, 7, 10, 24, 40, 53] -/
theorem c : cK Try.prog Try.f16.ntmps (Try.f16.body.getD .ret) = some s := by kernel_rfl
theorem b : Try.f16.body = some (Try.f16.body.getD .ret) := by kernel_rfl
theorem r : cRV Try.prog Try.f16.results.toList = some rv := by kernel_rfl
theorem ca : Callable Try.prog 16 = true := by kernel_rfl
theorem enter {args : List SV} {F : Hp} {k nk : Nat} {Q : SV → Hp → Prop} (hargs : SV.oks (fun n => decide (n < k)) args = true) (hF : F.ok (fun n => decide (n < k)) = true) (hN : args.length ≤ 69)
    (h : SW Try.prog 69 k s ⟨argE 0 args, F, k⟩ fun e st' => match e with | .normal => Fin k nk rv Q st' | .ret => Fin k nk rv Q st' | _ => False) : SB Try.prog 16 args F k nk Q :=
  SB.of_body Try.func16 b c r ca hargs hF hN h
end stable_Tracker_Hear
/-! ### (tranter.stable.Tracker).Stable -/
namespace stable_Tracker_Stable
abbrev f : Nat := 17
def s : SCo := (.seq
(.reg [⟨(some 2), .alloc 25 [(.d (.int .u32 0)), (.d (.int .u32 0)), (.d (.int .u32 0)), (.d (.int .u32 0)), (.d (.int .u32 0)), (.d (.int .u32 0)), (.d (.int .u32 0)), (.d (.int .u32 0))], none⟩] (fullB 1) false)
(.seq
(.seq
(.reg [⟨(some 3), .mv (.t 0), none⟩,
⟨(some 4), .call (.k (.fn (.func 52) [] [])) [(.t 3)], none⟩] (fullB 2) false)
(.cond (.t 4)
 (.seq
 (.reg [⟨(some 5), .bld [(.d (.int .u32 0)), (.d (.int .u32 0)), (.d (.int .u32 0)), (.d (.int .u32 0)), (.d (.int .u32 0)), (.d (.int .u32 0)), (.d (.int .u32 0)), (.d (.int .u32 0))] [], none⟩,
⟨none, .store 8 (.t 2) (.t 5), none⟩] (fullB 2) false)
 .ret)
 .skip))
(.seq
(.reg [⟨(some 6), .mv (.t 0), none⟩,
⟨(some 7), .nilc (.t 6), none⟩,
⟨(some 8), .fld 10 (.t 7), none⟩,
⟨(some 9), .mv (.t 0), none⟩,
⟨(some 10), .nilc (.t 9), none⟩,
⟨(some 11), .fld 0 (.t 10), none⟩,
⟨(some 12), .load none (.t 11), none⟩,
⟨(some 13), .slcA 8 8 (.t 8) none (some (.t 12)), none⟩,
⟨(some 14), .call (.k (.fn (.func 27) [] [])) [(.t 13)], none⟩,
⟨none, .store 8 (.t 2) (.t 14), none⟩] [0,
1,
3,
0,
8,
24,
56,
127,
255,
511] true)
.ret)))
def rv : List RV := [.cell 2 (some 8)]
/-! live stable_Tracker_Stable: [0, 2, 4] -/
theorem c : cK Try.prog Try.f17.ntmps (Try.f17.body.getD .ret) = some s := by kernel_rfl
theorem b : Try.f17.body = some (Try.f17.body.getD .ret) := by kernel_rfl
theorem r : cRV Try.prog Try.f17.results.toList = some rv := by kernel_rfl
theorem ca : Callable Try.prog 17 = true := by kernel_rfl
theorem enter {args : List SV} {F : Hp} {k nk : Nat} {Q : SV → Hp → Prop} (hargs : SV.oks (fun n => decide (n < k)) args = true) (hF : F.ok (fun n => decide (n < k)) = true) (hN : args.length ≤ 15)
    (h : SW Try.prog 15 k s ⟨argE 0 args, F, k⟩ fun e st' => match e with | .normal => Fin k nk rv Q st' | .ret => Fin k nk rv Q st' | _ => False) : SB Try.prog 17 args F k nk Q :=
  SB.of_body Try.func17 b c r ca hargs hF hN h
end stable_Tracker_Stable
/-! ### (tranter.stable.Tracker).Waits -/
namespace stable_Tracker_Waits
abbrev f : Nat := 18
def s : SCo := (.seq
(.reg [⟨(some 2), .mv (.k (.d (.int .i64 0))), none⟩] (fullB 1) false)
(.seq
(.seq
(.reg [⟨(some 6), .mv (.t 0), none⟩,
⟨(some 7), .call (.k (.fn (.func 52) [] [])) [(.t 6)], none⟩] (fullB 2) false)
(.cond (.t 7)
 (.seq
 (.reg [⟨(some 2), .mv (.k (.d (.int .i64 0))), none⟩] (fullB 1) false)
 .ret)
 .skip))
(.seq
(.reg [⟨(some 3), .mv (.k (.d (.int .i64 0))), none⟩] (fullB 1) false)
(.seq
 (.seq
 (.reg [⟨(some 8), .mv (.t 0), none⟩,
⟨(some 9), .nilc (.t 8), none⟩,
⟨(some 10), .fld 74 (.t 9), none⟩,
⟨(some 11), .load (some 8) (.t 10), none⟩,
⟨(some 12), .mv (.k (.d (.int .i64 0))), none⟩] (fullB 5) false)
 (.block 0
 (.loop
 (.seq
  (.reg [⟨(some 13), .bin .lss (.t 12) (.k (.d (.int .i64 8))), none⟩] (fullB 1) false)
  (.seq
  (.cond (.t 13)
  .skip
  (.exit 0))
  (.seq
  (.block 1
  (.seq
   (.reg [⟨(some 14), .index 8 1 false (.t 11) (.t 12), none⟩,
⟨(some 5), .mv (.t 14), none⟩] (fullB 2) false)
   (.reg [⟨(some 15), .mv (.t 3), none⟩,
⟨(some 16), .mv (.t 5), none⟩,
⟨(some 17), .mlen (.t 16), none⟩,
⟨(some 18), .bin .add (.t 15) (.t 17), none⟩,
⟨(some 3), .mv (.t 18), none⟩] (fullB 5) false)))
  (.reg [⟨(some 19), .bin .add (.t 12) (.k (.d (.int .i64 1))), none⟩,
⟨(some 12), .mv (.t 19), none⟩] (fullB 2) false)))))))
 (.seq
 (.reg [⟨(some 20), .mv (.t 3), none⟩,
⟨(some 2), .mv (.t 20), none⟩] (fullB 2) false)
 .ret)))))
def rv : List RV := [.tmp 2]
/-! live stable_Tracker_Waits: [0, 2, 3, 5, 7, 11, 12, 13] -/
theorem c : cK Try.prog Try.f18.ntmps (Try.f18.body.getD .ret) = some s := by kernel_rfl
theorem b : Try.f18.body = some (Try.f18.body.getD .ret) := by kernel_rfl
theorem r : cRV Try.prog Try.f18.results.toList = some rv := by kernel_rfl
theorem ca : Callable Try.prog 18 = true := by kernel_rfl
theorem enter {args : List SV} {F : Hp} {k nk : Nat} {Q : SV → Hp → Prop} (hargs : SV.oks (fun n => decide (n < k)) args = true) (hF : F.ok (fun n => decide (n < k)) = true) (hN : args.length ≤ 21)
    (h : SW Try.prog 21 k s ⟨argE 0 args, F, k⟩ fun e st' => match e with | .normal => Fin k nk rv Q st' | .ret => Fin k nk rv Q st' | _ => False) : SB Try.prog 18 args F k nk Q :=
  SB.of_body Try.func18 b c r ca hargs hF hN h
end stable_Tracker_Waits
/-! ### tranter.tranterref10.History -/
namespace ref10_History
abbrev f : Nat := 19
def s : SCo := (.seq
(.reg [⟨(some 4), .mv (.k (.d (.int .i64 0))), none⟩] (fullB 1) false)
(.seq
(.seq
(.reg [⟨(some 7), .mv (.t 1), none⟩,
⟨(some 8), .bin .lss (.t 7) (.k (.d (.int .i64 1))), none⟩,
⟨(some 9), .mv (.t 8), none⟩,
⟨(some 10), .mv (.t 1), some (9, false)⟩,
⟨(some 11), .bin .gtr (.t 10) (.k (.d (.int .i64 8))), some (9, false)⟩,
⟨(some 12), .pick (.t 9) (.k (.d (.bool true))) (.t 11), none⟩] (fullB 6) false)
(.cond (.t 12)
 (.seq
 (.reg [⟨(some 4), .mv (.k (.d (.int .i64 2))), none⟩] (fullB 1) false)
 .ret)
 .skip))
(.seq
(.seq
 (.reg [⟨(some 5), .mv (.k (.d (.int .i64 0))), none⟩] (fullB 1) false)
 (.block 0
 (.loop
 (.seq
 (.seq
  (.reg [⟨(some 13), .mv (.t 5), none⟩,
⟨(some 14), .mv (.t 0), none⟩,
⟨(some 15), .len (.t 14), none⟩,
⟨(some 16), .bin .lss (.t 13) (.t 15), none⟩] (fullB 4) false)
  (.cond (.t 16)
  .skip
  (.exit 0)))
 (.seq
  (.block 1
  (.seq
  (.reg [⟨(some 19), .mv (.t 0), none⟩,
⟨(some 20), .mv (.t 5), none⟩,
⟨(some 21), .idxS 29 (.t 19) (.t 20), none⟩,
⟨(some 22), .load (some 29) (.t 21), none⟩,
⟨(some 23), .mv (.t 1), none⟩,
⟨(some 24), .call (.k (.fn (.func 55) [] [])) [(.t 22), (.t 23)], none⟩,
⟨(some 25), .bin .neq (.t 24) (.k (.d (.int .i64 0))), none⟩] (fullB 7) false)
  (.cond (.t 25)
  (.seq
   (.reg [⟨(some 4), .mv (.k (.d (.int .i64 5))), none⟩] (fullB 1) false)
   .ret)
  .skip)))
  (.reg [⟨(some 17), .mv (.t 5), none⟩,
⟨(some 18), .bin .add (.t 17) (.k (.d (.int .i64 1))), none⟩,
⟨(some 5), .mv (.t 18), none⟩] (fullB 3) false))))))
(.seq
 (.seq
 (.reg [⟨(some 6), .mv (.k (.d (.int .i64 0))), none⟩] (fullB 1) false)
 (.block 2
 (.loop
 (.seq
  (.seq
  (.reg [⟨(some 26), .mv (.t 6), none⟩,
⟨(some 27), .mv (.t 0), none⟩,
⟨(some 28), .len (.t 27), none⟩,
⟨(some 29), .bin .lss (.t 26) (.t 28), none⟩] (fullB 4) false)
  (.cond (.t 29)
  .skip
  (.exit 2)))
  (.seq
  (.block 3
  (.seq
  (.reg [⟨(some 32), .mv (.t 0), none⟩,
⟨(some 33), .mv (.t 0), none⟩,
⟨(some 34), .mv (.t 6), none⟩,
⟨(some 35), .idxS 29 (.t 33) (.t 34), none⟩,
⟨(some 36), .load (some 29) (.t 35), none⟩,
⟨(some 37), .call (.k (.fn (.func 56) [] [])) [(.t 32), (.t 36)], none⟩,
⟨(some 38), .not (.t 37), none⟩] (fullB 7) false)
  (.cond (.t 38)
   (.seq
   (.reg [⟨(some 4), .mv (.k (.d (.int .i64 9))), none⟩] (fullB 1) false)
   .ret)
   .skip)))
  (.reg [⟨(some 30), .mv (.t 6), none⟩,
⟨(some 31), .bin .add (.t 30) (.k (.d (.int .i64 1))), none⟩,
⟨(some 6), .mv (.t 31), none⟩] (fullB 3) false))))))
 (.seq
 (.reg [⟨(some 4), .mv (.k (.d (.int .i64 0))), none⟩] (fullB 1) false)
 .ret)))))
def rv : List RV := [.tmp 4]
/-! live ref10_History: [0, 1, 4, 5, 6, 12, 16, 25, 29, 38] -/
theorem c : cK Try.prog Try.f19.ntmps (Try.f19.body.getD .ret) = some s := by kernel_rfl
theorem b : Try.f19.body = some (Try.f19.body.getD .ret) := by kernel_rfl
theorem r : cRV Try.prog Try.f19.results.toList = some rv := by kernel_rfl
theorem ca : Callable Try.prog 19 = true := by kernel_rfl
theorem enter {args : List SV} {F : Hp} {k nk : Nat} {Q : SV → Hp → Prop} (hargs : SV.oks (fun n => decide (n < k)) args = true) (hF : F.ok (fun n => decide (n < k)) = true) (hN : args.length ≤ 39)
    (h : SW Try.prog 39 k s ⟨argE 0 args, F, k⟩ fun e st' => match e with | .normal => Fin k nk rv Q st' | .ret => Fin k nk rv Q st' | _ => False) : SB Try.prog 19 args F k nk Q :=
  SB.of_body Try.func19 b c r ca hargs hF hN h
end ref10_History
/-! ### tranter.tranterref10.Great -/
namespace ref10_Great
abbrev f : Nat := 20
def s : SCo := (.seq
(.reg [⟨(some 2), .mv (.k (.d (.bool false))), none⟩] (fullB 1) false)
(.seq
(.reg [⟨(some 3), .mv (.k (.d (.int .i64 0))), none⟩] (fullB 1) false)
(.seq
(.seq
 (.reg [⟨(some 4), .mv (.k (.d (.int .i64 0))), none⟩] (fullB 1) false)
 (.block 0
 (.loop
 (.seq
 (.seq
  (.reg [⟨(some 5), .mv (.t 4), none⟩,
⟨(some 6), .mv (.t 0), none⟩,
⟨(some 7), .len (.t 6), none⟩,
⟨(some 8), .bin .lss (.t 5) (.t 7), none⟩,
⟨(some 9), .mv (.t 8), none⟩,
⟨(some 10), .mv (.t 4), some (9, true)⟩,
⟨(some 11), .bin .lss (.t 10) (.k (.d (.int .i64 100))), some (9, true)⟩,
⟨(some 12), .pick (.t 9) (.t 11) (.k (.d (.bool false))), none⟩] (fullB 8) false)
  (.cond (.t 12)
  .skip
  (.exit 0)))
 (.seq
  (.block 1
  (.reg [⟨(some 15), .mv (.t 3), none⟩,
⟨(some 16), .mv (.t 0), none⟩,
⟨(some 17), .mv (.t 4), none⟩,
⟨(some 18), .idxS 29 (.t 16) (.t 17), none⟩,
⟨(some 19), .fld 28 (.t 18), none⟩,
⟨(some 20), .load none (.t 19), none⟩,
⟨(some 21), .len (.t 20), none⟩,
⟨(some 22), .bin .add (.t 15) (.t 21), none⟩,
⟨(some 3), .mv (.t 22), none⟩] (fullB 9) false))
  (.reg [⟨(some 13), .mv (.t 4), none⟩,
⟨(some 14), .bin .add (.t 13) (.k (.d (.int .i64 1))), none⟩,
⟨(some 4), .mv (.t 14), none⟩] (fullB 3) false))))))
(.seq
 (.reg [⟨(some 23), .mv (.t 0), none⟩,
⟨(some 24), .len (.t 23), none⟩,
⟨(some 25), .bin .gtr (.t 24) (.k (.d (.int .i64 80))), none⟩,
⟨(some 26), .mv (.t 25), none⟩,
⟨(some 27), .mv (.t 3), some (26, false)⟩,
⟨(some 28), .bin .gtr (.t 27) (.k (.d (.int .i64 300))), some (26, false)⟩,
⟨(some 29), .pick (.t 26) (.k (.d (.bool true))) (.t 28), none⟩,
⟨(some 2), .mv (.t 29), none⟩] (fullB 8) false)
 .ret))))
def rv : List RV := [.tmp 2]
/-! live ref10_Great: [0, 2, 3, 4, 12] -/
theorem c : cK Try.prog Try.f20.ntmps (Try.f20.body.getD .ret) = some s := by kernel_rfl
theorem b : Try.f20.body = some (Try.f20.body.getD .ret) := by kernel_rfl
theorem r : cRV Try.prog Try.f20.results.toList = some rv := by kernel_rfl
theorem ca : Callable Try.prog 20 = true := by kernel_rfl
theorem enter {args : List SV} {F : Hp} {k nk : Nat} {Q : SV → Hp → Prop} (hargs : SV.oks (fun n => decide (n < k)) args = true) (hF : F.ok (fun n => decide (n < k)) = true) (hN : args.length ≤ 30)
    (h : SW Try.prog 30 k s ⟨argE 0 args, F, k⟩ fun e st' => match e with | .normal => Fin k nk rv Q st' | .ret => Fin k nk rv Q st' | _ => False) : SB Try.prog 20 args F k nk Q :=
  SB.of_body Try.func20 b c r ca hargs hF hN h
end ref10_Great
/-! ### tranter.tranterref10.Known -/
namespace ref10_Known
abbrev f : Nat := 21
def s : SCo := (.seq
(.reg [⟨(some 2), .alloc 25 [(.d (.int .u32 0)), (.d (.int .u32 0)), (.d (.int .u32 0)), (.d (.int .u32 0)), (.d (.int .u32 0)), (.d (.int .u32 0)), (.d (.int .u32 0)), (.d (.int .u32 0))], none⟩] (fullB 1) false)
(.seq
(.reg [⟨(some 3), .alloc 25 [(.d (.int .u32 0)), (.d (.int .u32 0)), (.d (.int .u32 0)), (.d (.int .u32 0)), (.d (.int .u32 0)), (.d (.int .u32 0)), (.d (.int .u32 0)), (.d (.int .u32 0))], none⟩] (fullB 1) false)
(.seq
(.seq
 (.reg [⟨(some 4), .mv (.k (.d (.int .i64 0))), none⟩] (fullB 1) false)
 (.block 0
 (.loop
 (.seq
 (.seq
  (.reg [⟨(some 5), .mv (.t 4), none⟩,
⟨(some 6), .mv (.t 0), none⟩,
⟨(some 7), .len (.t 6), none⟩,
⟨(some 8), .bin .lss (.t 5) (.t 7), none⟩] (fullB 4) false)
  (.cond (.t 8)
  .skip
  (.exit 0)))
 (.seq
  (.block 1
  (.seq
  (.reg (⟨(some 11), .mv (.t 0), none⟩ ::
⟨(some 12), .mv (.t 4), none⟩ ::
⟨(some 13), .idxS 29 (.t 11) (.t 12), none⟩ ::
⟨(some 14), .fld 0 (.t 13), none⟩ ::
⟨(some 15), .fld 0 (.t 14), none⟩ ::
⟨(some 16), .load none (.t 15), none⟩ ::
⟨(some 17), .bin .lss (.t 16) (.k (.d (.int .u8 8))), none⟩ ::
⟨(some 18), .mv (.t 17), none⟩ ::
⟨(some 19), .mv (.t 0), some (18, true)⟩ ::
⟨(some 20), .mv (.t 4), some (18, true)⟩ ::
⟨(some 21), .idxS 29 (.t 19) (.t 20), some (18, true)⟩ ::
⟨(some 22), .fld 0 (.t 21), some (18, true)⟩ ::
⟨(some 23), .fld 1 (.t 22), some (18, true)⟩ ::
⟨(some 24), .load none (.t 23), some (18, true)⟩ ::
⟨(some 25), .mv (.t 0), some (18, true)⟩ ::
⟨(some 26), .mv (.t 4), some (18, true)⟩ ::
⟨(some 27), .idxS 29 (.t 25) (.t 26), some (18, true)⟩ ::
⟨(some 28), .fld 0 (.t 27), some (18, true)⟩ ::
⟨(some 29), .fld 0 (.t 28), some (18, true)⟩ ::
⟨(some 30), .load none (.t 29), some (18, true)⟩ ::
⟨(some 31), .idxA 8 1 (.t 3) (.t 30), some (18, true)⟩ ::
⟨(some 32), .load none (.t 31), some (18, true)⟩ ::
⟨(some 33), .bin .gtr (.t 24) (.t 32), some (18, true)⟩ ::
⟨(some 34), .pick (.t 18) (.t 33) (.k (.d (.bool false))), none⟩ :: []) (0 ::
0 ::
3 ::
7 ::
15 ::
31 ::
63 ::
127 ::
255 ::
255 ::
1023 ::
2047 ::
4095 ::
8191 ::
255 ::
255 ::
49407 ::
114943 ::
246015 ::
508159 ::
1032447 ::
2081023 ::
4194303 ::
8388607 :: []) true)
  (.cond (.t 34)
  (.reg [⟨(some 35), .mv (.t 0), none⟩,
⟨(some 36), .mv (.t 4), none⟩,
⟨(some 37), .idxS 29 (.t 35) (.t 36), none⟩,
⟨(some 38), .fld 0 (.t 37), none⟩,
⟨(some 39), .fld 0 (.t 38), none⟩,
⟨(some 40), .load none (.t 39), none⟩,
⟨(some 41), .mv (.t 0), none⟩,
⟨(some 42), .mv (.t 4), none⟩,
⟨(some 43), .idxS 29 (.t 41) (.t 42), none⟩,
⟨(some 44), .fld 0 (.t 43), none⟩,
⟨(some 45), .fld 1 (.t 44), none⟩,
⟨(some 46), .load none (.t 45), none⟩,
⟨(some 47), .idxA 8 1 (.t 3) (.t 40), none⟩,
⟨none, .store 1 (.t 47) (.t 46), none⟩] [0,
0,
3,
7,
15,
31,
0,
0,
192,
448,
960,
1984,
4095,
8191] true)
  .skip)))
  (.reg [⟨(some 9), .mv (.t 4), none⟩,
⟨(some 10), .bin .add (.t 9) (.k (.d (.int .i64 1))), none⟩,
⟨(some 4), .mv (.t 10), none⟩] (fullB 3) false))))))
(.seq
 (.reg [⟨(some 48), .load (some 8) (.t 3), none⟩,
⟨none, .store 8 (.t 2) (.t 48), none⟩] (fullB 2) false)
 .ret))))
def rv : List RV := [.cell 2 (some 8)]
/-! live ref10_Known: [0, 2, 3, 4, 8, 34] -/
theorem c : cK Try.prog Try.f21.ntmps (Try.f21.body.getD .ret) = some s := by kernel_rfl
theorem b : Try.f21.body = some (Try.f21.body.getD .ret) := by kernel_rfl
theorem r : cRV Try.prog Try.f21.results.toList = some rv := by kernel_rfl
theorem ca : Callable Try.prog 21 = true := by kernel_rfl
theorem enter {args : List SV} {F : Hp} {k nk : Nat} {Q : SV → Hp → Prop} (hargs : SV.oks (fun n => decide (n < k)) args = true) (hF : F.ok (fun n => decide (n < k)) = true) (hN : args.length ≤ 49)
    (h : SW Try.prog 49 k s ⟨argE 0 args, F, k⟩ fun e st' => match e with | .normal => Fin k nk rv Q st' | .ret => Fin k nk rv Q st' | _ => False) : SB Try.prog 21 args F k nk Q :=
  SB.of_body Try.func21 b c r ca hargs hF hN h
end ref10_Known
/-! ### tranter.tranterref04.Covers -/
namespace ref04_Covers
abbrev f : Nat := 22
def s : SCo := (.seq
(.reg [⟨(some 2), .box 25 (.t 0), none⟩,
⟨(some 3), .box 44 (.t 1), none⟩,
⟨(some 4), .mv (.k (.d (.bool false))), none⟩] (fullB 3) false)
(.seq
(.reg [⟨(some 5), .load (some 2) (.t 3), none⟩,
⟨(some 6), .call (.k (.fn (.func 57) [] [])) [(.t 5)], none⟩,
⟨(some 7), .mv (.t 6), none⟩,
⟨(some 8), .fld 1 (.t 3), some (7, true)⟩,
⟨(some 9), .load none (.t 8), some (7, true)⟩,
⟨(some 10), .fld 0 (.t 3), some (7, true)⟩,
⟨(some 11), .load none (.t 10), some (7, true)⟩,
⟨(some 12), .idxA 8 1 (.t 2) (.t 11), some (7, true)⟩,
⟨(some 13), .load none (.t 12), some (7, true)⟩,
⟨(some 14), .bin .leq (.t 9) (.t 13), some (7, true)⟩,
⟨(some 15), .pick (.t 7) (.t 14) (.k (.d (.bool false))), none⟩,
⟨(some 4), .mv (.t 15), none⟩] [0,
1,
3,
7,
15,
7,
39,
103,
231,
511,
1023,
2047] true)
.ret))
def rv : List RV := [.tmp 4]
/-! live ref04_Covers: [0, 1, 2, 3, 4] -/
theorem c : cK Try.prog Try.f22.ntmps (Try.f22.body.getD .ret) = some s := by kernel_rfl
theorem b : Try.f22.body = some (Try.f22.body.getD .ret) := by kernel_rfl
theorem r : cRV Try.prog Try.f22.results.toList = some rv := by kernel_rfl
theorem ca : Callable Try.prog 22 = true := by kernel_rfl
theorem enter {args : List SV} {F : Hp} {k nk : Nat} {Q : SV → Hp → Prop} (hargs : SV.oks (fun n => decide (n < k)) args = true) (hF : F.ok (fun n => decide (n < k)) = true) (hN : args.length ≤ 16)
    (h : SW Try.prog 16 k s ⟨argE 0 args, F, k⟩ fun e st' => match e with | .normal => Fin k nk rv Q st' | .ret => Fin k nk rv Q st' | _ => False) : SB Try.prog 22 args F k nk Q :=
  SB.of_body Try.func22 b c r ca hargs hF hN h
end ref04_Covers
/-! ### tranter.tranterref04.Above -/
namespace ref04_Above
abbrev f : Nat := 23
def s : SCo := (.seq
(.reg [⟨(some 2), .box 25 (.t 0), none⟩,
⟨(some 3), .box 25 (.t 1), none⟩,
⟨(some 4), .mv (.k (.d (.bool false))), none⟩] (fullB 3) false)
(.seq
(.seq
(.reg [⟨(some 5), .mv (.k (.d (.int .i64 0))), none⟩] (fullB 1) false)
(.block 0
 (.loop
 (.seq
 (.seq
 (.reg [⟨(some 6), .mv (.t 5), none⟩,
⟨(some 7), .bin .lss (.t 6) (.k (.d (.int .i64 8))), none⟩] (fullB 2) false)
 (.cond (.t 7)
  .skip
  (.exit 0)))
 (.seq
 (.block 1
  (.seq
  (.reg [⟨(some 10), .mv (.t 5), none⟩,
⟨(some 11), .idxA 8 1 (.t 2) (.t 10), none⟩,
⟨(some 12), .load none (.t 11), none⟩,
⟨(some 13), .mv (.t 5), none⟩,
⟨(some 14), .idxA 8 1 (.t 3) (.t 13), none⟩,
⟨(some 15), .load none (.t 14), none⟩,
⟨(some 16), .bin .lss (.t 12) (.t 15), none⟩] [0,
1,
3,
0,
8,
24,
63] true)
  (.cond (.t 16)
  (.seq
  (.reg [⟨(some 4), .mv (.k (.d (.bool false))), none⟩] (fullB 1) false)
  .ret)
  .skip)))
 (.reg [⟨(some 8), .mv (.t 5), none⟩,
⟨(some 9), .bin .add (.t 8) (.k (.d (.int .i64 1))), none⟩,
⟨(some 5), .mv (.t 9), none⟩] (fullB 3) false))))))
(.seq
(.reg [⟨(some 4), .mv (.k (.d (.bool true))), none⟩] (fullB 1) false)
.ret)))
def rv : List RV := [.tmp 4]
/-! live ref04_Above: [0, 1, 2, 3, 4, 5, 7, 16] -/
theorem c : cK Try.prog Try.f23.ntmps (Try.f23.body.getD .ret) = some s := by kernel_rfl
theorem b : Try.f23.body = some (Try.f23.body.getD .ret) := by kernel_rfl
theorem r : cRV Try.prog Try.f23.results.toList = some rv := by kernel_rfl
theorem ca : Callable Try.prog 23 = true := by kernel_rfl
theorem enter {args : List SV} {F : Hp} {k nk : Nat} {Q : SV → Hp → Prop} (hargs : SV.oks (fun n => decide (n < k)) args = true) (hF : F.ok (fun n => decide (n < k)) = true) (hN : args.length ≤ 17)
    (h : SW Try.prog 17 k s ⟨argE 0 args, F, k⟩ fun e st' => match e with | .normal => Fin k nk rv Q st' | .ret => Fin k nk rv Q st' | _ => False) : SB Try.prog 23 args F k nk Q :=
  SB.of_body Try.func23 b c r ca hargs hF hN h
end ref04_Above
/-! ### tranter.tranterlaw04.head -/
namespace law04_head
abbrev f : Nat := 24
def s : SCo := (.seq
(.reg [⟨(some 0), .mv (.k (.d (.bool false))), none⟩] (fullB 1) false)
(.seq
(.reg [⟨(some 12), .call (.k (.fn (.func 58) [] [])) [(.k (.d (.int .u32 1))), (.k (.d (.int .u32 2))), (.k (.d (.int .u32 0)))], none⟩,
⟨(some 13), .call (.k (.fn (.func 34) [] [])) [(.t 12), (.k (.d (.int .u8 1)))], none⟩,
⟨(some 11), .mv (.t 13), none⟩,
⟨(some 14), .ext 0 (.t 11), none⟩,
⟨(some 15), .ext 1 (.t 11), none⟩,
⟨(some 1), .alloc 44 [(.d (.int .u8 0)), (.d (.int .u32 0))], none⟩,
⟨none, .store 2 (.t 1) (.t 14), none⟩,
⟨(some 2), .mv (.t 15), none⟩] (fullB 8) false)
(.seq
(.reg [⟨(some 17), .call (.k (.fn (.func 58) [] [])) [(.k (.d (.int .u32 1))), (.k (.d (.int .u32 2))), (.k (.d (.int .u32 0)))], none⟩,
⟨(some 18), .bld [(.d (.int .u8 0)), (.d (.int .u32 0))] [(0, 1, (.k (.d (.int .u8 1)))), (1, 1, (.k (.d (.int .u32 3))))], none⟩,
⟨(some 19), .call (.k (.fn (.func 35) [] [])) [(.t 17), (.t 18)], none⟩,
⟨(some 16), .mv (.t 19), none⟩,
⟨(some 20), .ext 0 (.t 16), none⟩,
⟨(some 21), .ext 1 (.t 16), none⟩,
⟨(some 3), .alloc 25 [(.d (.int .u32 0)), (.d (.int .u32 0)), (.d (.int .u32 0)), (.d (.int .u32 0)), (.d (.int .u32 0)), (.d (.int .u32 0)), (.d (.int .u32 0)), (.d (.int .u32 0))], none⟩,
⟨none, .store 8 (.t 3) (.t 20), none⟩,
⟨(some 4), .mv (.t 21), none⟩] (fullB 9) false)
(.seq
 (.reg [⟨(some 23), .call (.k (.fn (.func 58) [] [])) [(.k (.d (.int .u32 1))), (.k (.d (.int .u32 2))), (.k (.d (.int .u32 0)))], none⟩,
⟨(some 24), .bld [(.d (.int .u8 0)), (.d (.int .u32 0))] [(0, 1, (.k (.d (.int .u8 1)))), (1, 1, (.k (.d (.int .u32 4))))], none⟩,
⟨(some 25), .call (.k (.fn (.func 35) [] [])) [(.t 23), (.t 24)], none⟩,
⟨(some 22), .mv (.t 25), none⟩,
⟨(some 26), .ext 0 (.t 22), none⟩,
⟨(some 27), .ext 1 (.t 22), none⟩,
⟨(some 5), .alloc 25 [(.d (.int .u32 0)), (.d (.int .u32 0)), (.d (.int .u32 0)), (.d (.int .u32 0)), (.d (.int .u32 0)), (.d (.int .u32 0)), (.d (.int .u32 0)), (.d (.int .u32 0))], none⟩,
⟨none, .store 8 (.t 5) (.t 26), none⟩,
⟨(some 6), .mv (.t 27), none⟩] (fullB 9) false)
 (.seq
 (.reg [⟨(some 29), .call (.k (.fn (.func 58) [] [])) [(.k (.d (.int .u32 1))), (.k (.d (.int .u32 2))), (.k (.d (.int .u32 0)))], none⟩,
⟨(some 30), .call (.k (.fn (.func 34) [] [])) [(.t 29), (.k (.d (.int .u8 8)))], none⟩,
⟨(some 28), .mv (.t 30), none⟩,
⟨(some 31), .ext 0 (.t 28), none⟩,
⟨(some 32), .ext 1 (.t 28), none⟩,
⟨(some 7), .alloc 44 [(.d (.int .u8 0)), (.d (.int .u32 0))], none⟩,
⟨none, .store 2 (.t 7) (.t 31), none⟩,
⟨(some 8), .mv (.t 32), none⟩] (fullB 8) false)
 (.seq
 (.reg [⟨(some 34), .call (.k (.fn (.func 58) [] [])) [(.k (.d (.int .u32 1))), (.k (.d (.int .u32 2))), (.k (.d (.int .u32 0)))], none⟩,
⟨(some 35), .call (.k (.fn (.func 58) [] [])) [(.k (.d (.int .u32 2))), (.k (.d (.int .u32 2))), (.k (.d (.int .u32 1)))], none⟩,
⟨(some 36), .call (.k (.fn (.func 37) [] [])) [(.t 34), (.t 35)], none⟩,
⟨(some 33), .mv (.t 36), none⟩,
⟨(some 37), .ext 0 (.t 33), none⟩,
⟨(some 38), .ext 1 (.t 33), none⟩,
⟨(some 9), .mv (.t 37), none⟩,
⟨(some 10), .mv (.t 38), none⟩] (fullB 8) false)
 (.seq
 (.reg (⟨(some 39), .call (.k (.fn (.func 58) [] [])) [(.k (.d (.int .u32 1))), (.k (.d (.int .u32 2))), (.k (.d (.int .u32 0)))], none⟩ ::
⟨(some 40), .call (.k (.fn (.func 58) [] [])) [(.k (.d (.int .u32 0))), (.k (.d (.int .u32 3))), (.k (.d (.int .u32 1)))], none⟩ ::
⟨(some 41), .bsl 25 8 2 [(.d (.int .u32 0)), (.d (.int .u32 0)), (.d (.int .u32 0)), (.d (.int .u32 0)), (.d (.int .u32 0)), (.d (.int .u32 0)), (.d (.int .u32 0)), (.d (.int .u32 0)), (.d (.int .u32 0)), (.d (.int .u32 0)), (.d (.int .u32 0)), (.d (.int .u32 0)), (.d (.int .u32 0)), (.d (.int .u32 0)), (.d (.int .u32 0)), (.d (.int .u32 0))] [(0, 8, (.t 39)), (8, 8, (.t 40))], none⟩ ::
⟨(some 42), .call (.k (.fn (.func 25) [] [])) [(.t 41)], none⟩ ::
⟨(some 43), .call (.k (.fn (.func 58) [] [])) [(.k (.d (.int .u32 1))), (.k (.d (.int .u32 3))), (.k (.d (.int .u32 1)))], none⟩ ::
⟨(some 44), .eqv false [true, true, true, true, true, true, true, true] (.t 42) (.t 43), none⟩ ::
⟨(some 45), .mv (.t 44), none⟩ ::
⟨(some 46), .call (.k (.fn (.func 58) [] [])) [(.k (.d (.int .u32 1))), (.k (.d (.int .u32 2))), (.k (.d (.int .u32 0)))], some (45, true)⟩ ::
⟨(some 47), .call (.k (.fn (.func 58) [] [])) [(.k (.d (.int .u32 0))), (.k (.d (.int .u32 3))), (.k (.d (.int .u32 1)))], some (45, true)⟩ ::
⟨(some 48), .bsl 25 8 2 [(.d (.int .u32 0)), (.d (.int .u32 0)), (.d (.int .u32 0)), (.d (.int .u32 0)), (.d (.int .u32 0)), (.d (.int .u32 0)), (.d (.int .u32 0)), (.d (.int .u32 0)), (.d (.int .u32 0)), (.d (.int .u32 0)), (.d (.int .u32 0)), (.d (.int .u32 0)), (.d (.int .u32 0)), (.d (.int .u32 0)), (.d (.int .u32 0)), (.d (.int .u32 0))] [(0, 8, (.t 46)), (8, 8, (.t 47))], some (45, true)⟩ ::
⟨(some 49), .call (.k (.fn (.func 27) [] [])) [(.t 48)], some (45, true)⟩ ::
⟨(some 50), .call (.k (.fn (.func 58) [] [])) [(.k (.d (.int .u32 0))), (.k (.d (.int .u32 2))), (.k (.d (.int .u32 0)))], some (45, true)⟩ ::
⟨(some 51), .eqv false [true, true, true, true, true, true, true, true] (.t 49) (.t 50), some (45, true)⟩ ::
⟨(some 52), .pick (.t 45) (.t 51) (.k (.d (.bool false))), none⟩ ::
⟨(some 53), .mv (.t 52), none⟩ ::
⟨(some 54), .call (.k (.fn (.func 58) [] [])) [(.k (.d (.int .u32 1))), (.k (.d (.int .u32 2))), (.k (.d (.int .u32 0)))], some (53, true)⟩ ::
⟨(some 55), .call (.k (.fn (.func 58) [] [])) [(.k (.d (.int .u32 1))), (.k (.d (.int .u32 1))), (.k (.d (.int .u32 0)))], some (53, true)⟩ ::
⟨(some 56), .call (.k (.fn (.func 32) [] [])) [(.t 54), (.t 55)], some (53, true)⟩ ::
⟨(some 57), .pick (.t 53) (.t 56) (.k (.d (.bool false))), none⟩ ::
⟨(some 58), .mv (.t 57), none⟩ ::
⟨(some 59), .call (.k (.fn (.func 58) [] [])) [(.k (.d (.int .u32 1))), (.k (.d (.int .u32 2))), (.k (.d (.int .u32 0)))], some (58, true)⟩ ::
⟨(some 60), .call (.k (.fn (.func 58) [] [])) [(.k (.d (.int .u32 0))), (.k (.d (.int .u32 3))), (.k (.d (.int .u32 0)))], some (58, true)⟩ ::
⟨(some 61), .call (.k (.fn (.func 40) [] [])) [(.t 59), (.t 60)], some (58, true)⟩ ::
⟨(some 62), .pick (.t 58) (.t 61) (.k (.d (.bool false))), none⟩ ::
⟨(some 63), .mv (.t 62), none⟩ ::
⟨(some 64), .call (.k (.fn (.func 58) [] [])) [(.k (.d (.int .u32 1))), (.k (.d (.int .u32 2))), (.k (.d (.int .u32 0)))], some (63, true)⟩ ::
⟨(some 65), .bld [(.d (.int .u8 0)), (.d (.int .u32 0))] [(0, 1, (.k (.d (.int .u8 1)))), (1, 1, (.k (.d (.int .u32 2))))], some (63, true)⟩ ::
⟨(some 66), .call (.k (.fn (.func 33) [] [])) [(.t 64), (.t 65)], some (63, true)⟩ ::
⟨(some 67), .pick (.t 63) (.t 66) (.k (.d (.bool false))), none⟩ ::
⟨(some 68), .mv (.t 67), none⟩ ::
⟨(some 69), .call (.k (.fn (.func 58) [] [])) [(.k (.d (.int .u32 1))), (.k (.d (.int .u32 2))), (.k (.d (.int .u32 0)))], some (68, true)⟩ ::
⟨(some 70), .bld [(.d (.int .u8 0)), (.d (.int .u32 0))] [(0, 1, (.k (.d (.int .u8 2)))), (1, 1, (.k (.d (.int .u32 1))))], some (68, true)⟩ ::
⟨(some 71), .call (.k (.fn (.func 33) [] [])) [(.t 69), (.t 70)], some (68, true)⟩ ::
⟨(some 72), .not (.t 71), some (68, true)⟩ ::
⟨(some 73), .pick (.t 68) (.t 72) (.k (.d (.bool false))), none⟩ ::
⟨(some 74), .mv (.t 73), none⟩ ::
⟨(some 75), .load (some 2) (.t 1), some (74, true)⟩ ::
⟨(some 76), .bld [(.d (.int .u8 0)), (.d (.int .u32 0))] [(0, 1, (.k (.d (.int .u8 1)))), (1, 1, (.k (.d (.int .u32 3))))], some (74, true)⟩ ::
⟨(some 77), .eqv false [true, true] (.t 75) (.t 76), some (74, true)⟩ ::
⟨(some 78), .pick (.t 74) (.t 77) (.k (.d (.bool false))), none⟩ ::
⟨(some 79), .mv (.t 78), none⟩ ::
⟨(some 80), .mv (.t 2), some (79, true)⟩ ::
⟨(some 81), .bin .eql (.t 80) (.k (.d (.int .i64 0))), some (79, true)⟩ ::
⟨(some 82), .pick (.t 79) (.t 81) (.k (.d (.bool false))), none⟩ ::
⟨(some 83), .mv (.t 82), none⟩ ::
⟨(some 84), .load (some 8) (.t 3), some (83, true)⟩ ::
⟨(some 85), .call (.k (.fn (.func 58) [] [])) [(.k (.d (.int .u32 1))), (.k (.d (.int .u32 3))), (.k (.d (.int .u32 0)))], some (83, true)⟩ ::
⟨(some 86), .eqv false [true, true, true, true, true, true, true, true] (.t 84) (.t 85), some (83, true)⟩ ::
⟨(some 87), .pick (.t 83) (.t 86) (.k (.d (.bool false))), none⟩ ::
⟨(some 88), .mv (.t 87), none⟩ ::
⟨(some 89), .mv (.t 4), some (88, true)⟩ ::
⟨(some 90), .bin .eql (.t 89) (.k (.d (.int .i64 0))), some (88, true)⟩ ::
⟨(some 91), .pick (.t 88) (.t 90) (.k (.d (.bool false))), none⟩ ::
⟨(some 92), .mv (.t 91), none⟩ ::
⟨(some 93), .mv (.t 6), some (92, true)⟩ ::
⟨(some 94), .bin .eql (.t 93) (.k (.d (.int .i64 9))), some (92, true)⟩ ::
⟨(some 95), .pick (.t 92) (.t 94) (.k (.d (.bool false))), none⟩ ::
⟨(some 96), .mv (.t 95), none⟩ ::
⟨(some 97), .mv (.t 8), some (96, true)⟩ ::
⟨(some 98), .bin .eql (.t 97) (.k (.d (.int .i64 2))), some (96, true)⟩ ::
⟨(some 99), .pick (.t 96) (.t 98) (.k (.d (.bool false))), none⟩ ::
⟨(some 100), .mv (.t 99), none⟩ ::
⟨(some 101), .mv (.t 9), some (100, true)⟩ ::
⟨(some 102), .bld [(.d (.int .u8 0)), (.d (.int .u32 0))] [(1, 1, (.k (.d (.int .u32 2))))], some (100, true)⟩ ::
⟨(some 103), .bld [(.d (.int .u8 0)), (.d (.int .u32 0))] [(0, 1, (.k (.d (.int .u8 2)))), (1, 1, (.k (.d (.int .u32 1))))], some (100, true)⟩ ::
⟨(some 104), .bsl 44 2 2 [(.d (.int .u8 0)), (.d (.int .u32 0)), (.d (.int .u8 0)), (.d (.int .u32 0))] [(0, 2, (.t 102)), (2, 2, (.t 103))], some (100, true)⟩ ::
⟨(some 105), .call (.k (.fn (.func 44) [] [])) [(.t 101), (.t 104)], some (100, true)⟩ ::
⟨(some 106), .pick (.t 100) (.t 105) (.k (.d (.bool false))), none⟩ ::
⟨(some 107), .mv (.t 106), none⟩ ::
⟨(some 108), .mv (.t 10), some (107, true)⟩ ::
⟨(some 109), .bin .eql (.t 108) (.k (.d (.int .i64 0))), some (107, true)⟩ ::
⟨(some 110), .pick (.t 107) (.t 109) (.k (.d (.bool false))), none⟩ ::
⟨(some 111), .mv (.t 110), none⟩ ::
⟨(some 112), .call (.k (.fn (.func 58) [] [])) [(.k (.d (.int .u32 1))), (.k (.d (.int .u32 2))), (.k (.d (.int .u32 0)))], some (111, true)⟩ ::
⟨(some 113), .call (.k (.fn (.func 36) [] [])) [(.t 112)], some (111, true)⟩ ::
⟨(some 114), .bin .eql (.t 113) (.k (.d (.int .u64 3))), some (111, true)⟩ ::
⟨(some 115), .pick (.t 111) (.t 114) (.k (.d (.bool false))), none⟩ ::
⟨(some 116), .mv (.t 115), none⟩ ::
⟨(some 117), .call (.k (.fn (.func 58) [] [])) [(.k (.d (.int .u32 1))), (.k (.d (.int .u32 0))), (.k (.d (.int .u32 0)))], some (116, true)⟩ ::
⟨(some 118), .call (.k (.fn (.func 58) [] [])) [(.k (.d (.int .u32 0))), (.k (.d (.int .u32 1))), (.k (.d (.int .u32 0)))], some (116, true)⟩ ::
⟨(some 119), .call (.k (.fn (.func 58) [] [])) [(.k (.d (.int .u32 1))), (.k (.d (.int .u32 0))), (.k (.d (.int .u32 0)))], some (116, true)⟩ ::
⟨(some 120), .call (.k (.fn (.func 58) [] [])) [(.k (.d (.int .u32 0))), (.k (.d (.int .u32 0))), (.k (.d (.int .u32 0)))], some (116, true)⟩ ::
⟨(some 121), .bsl 25 8 4 [(.d (.int .u32 0)), (.d (.int .u32 0)), (.d (.int .u32 0)), (.d (.int .u32 0)), (.d (.int .u32 0)), (.d (.int .u32 0)), (.d (.int .u32 0)), (.d (.int .u32 0)), (.d (.int .u32 0)), (.d (.int .u32 0)), (.d (.int .u32 0)), (.d (.int .u32 0)), (.d (.int .u32 0)), (.d (.int .u32 0)), (.d (.int .u32 0)), (.d (.int .u32 0)), (.d (.int .u32 0)), (.d (.int .u32 0)), (.d (.int .u32 0)), (.d (.int .u32 0)), (.d (.int .u32 0)), (.d (.int .u32 0)), (.d (.int .u32 0)), (.d (.int .u32 0)), (.d (.int .u32 0)), (.d (.int .u32 0)), (.d (.int .u32 0)), (.d (.int .u32 0)), (.d (.int .u32 0)), (.d (.int .u32 0)), (.d (.int .u32 0)), (.d (.int .u32 0))] [(0, 8, (.t 117)), (8, 8, (.t 118)), (16, 8, (.t 119)), (24, 8, (.t 120))], some (116, true)⟩ ::
⟨(some 122), .call (.k (.fn (.func 30) [] [])) [(.t 121)], some (116, true)⟩ ::
⟨(some 123), .call (.k (.fn (.func 58) [] [])) [(.k (.d (.int .u32 1))), (.k (.d (.int .u32 0))), (.k (.d (.int .u32 0)))], some (116, true)⟩ ::
⟨(some 124), .call (.k (.fn (.func 58) [] [])) [(.k (.d (.int .u32 0))), (.k (.d (.int .u32 1))), (.k (.d (.int .u32 0)))], some (116, true)⟩ ::
⟨(some 125), .bsl 25 8 2 [(.d (.int .u32 0)), (.d (.int .u32 0)), (.d (.int .u32 0)), (.d (.int .u32 0)), (.d (.int .u32 0)), (.d (.int .u32 0)), (.d (.int .u32 0)), (.d (.int .u32 0)), (.d (.int .u32 0)), (.d (.int .u32 0)), (.d (.int .u32 0)), (.d (.int .u32 0)), (.d (.int .u32 0)), (.d (.int .u32 0)), (.d (.int .u32 0)), (.d (.int .u32 0))] [(0, 8, (.t 123)), (8, 8, (.t 124))], some (116, true)⟩ ::
⟨(some 126), .call (.k (.fn (.func 29) [] [])) [(.t 122), (.t 125)], some (116, true)⟩ ::
⟨(some 127), .pick (.t 116) (.t 126) (.k (.d (.bool false))), none⟩ ::
⟨(some 0), .mv (.t 127), none⟩ :: []) (0 ::
1 ::
3 ::
7 ::
15 ::
31 ::
63 ::
127 ::
255 ::
511 ::
1023 ::
2047 ::
4095 ::
8191 ::
16383 ::
32767 ::
65535 ::
131071 ::
262143 ::
524287 ::
1048575 ::
2097151 ::
4194303 ::
8388607 ::
16777215 ::
33554431 ::
33554431 ::
134217727 ::
268435455 ::
536870911 ::
1073741823 ::
1073741823 ::
4294967295 ::
8589934591 ::
17179869183 ::
34359738367 ::
68719476735 ::
68719476735 ::
274877906943 ::
549755813887 ::
1099511627775 ::
2199023255551 ::
4398046511103 ::
8796093022207 ::
17592186044415 ::
35184372088831 ::
35184372088831 ::
140737488355327 ::
281474976710655 ::
562949953421311 ::
1125899906842623 ::
2251799813685247 ::
4503599627370495 ::
9007199254740991 ::
18014398509481983 ::
36028797018963967 ::
72057594037927935 ::
144115188075855871 ::
288230376151711743 ::
576460752303423487 ::
1152921504606846975 ::
2305843009213693951 ::
4611686018427387903 ::
4611686018427387903 ::
4611686018427387903 ::
32281802128991715327 ::
73786976294838206463 ::
147573952589676412927 ::
295147905179352825855 ::
590295810358705651711 ::
1180591620717411303423 ::
2361183241434822606847 ::
4722366482869645213695 ::
9444732965739290427391 ::
18889465931478580854783 ::
37778931862957161709567 ::
75557863725914323419135 ::
151115727451828646838271 ::
302231454903657293676543 ::
604462909807314587353087 ::
1208925819614629174706175 ::
2417851639229258349412351 ::
4835703278458516698824703 ::
9671406556917033397649407 ::
19342813113834066795298815 ::
38685626227668133590597631 ::
77371252455336267181195263 ::
154742504910672534362390527 ::
309485009821345068724781055 ::
618970019642690137449562111 :: []) true)
 .ret)))))))
def rv : List RV := [.tmp 0]
/-! live law04_head: [0, 1, 2, 3, 4, 6, 8, 9, 10] -/
theorem c : cK Try.prog Try.f24.ntmps (Try.f24.body.getD .ret) = some s := by kernel_rfl
theorem b : Try.f24.body = some (Try.f24.body.getD .ret) := by kernel_rfl
theorem r : cRV Try.prog Try.f24.results.toList = some rv := by kernel_rfl
theorem ca : Callable Try.prog 24 = true := by kernel_rfl
theorem enter {args : List SV} {F : Hp} {k nk : Nat} {Q : SV → Hp → Prop} (hargs : SV.oks (fun n => decide (n < k)) args = true) (hF : F.ok (fun n => decide (n < k)) = true) (hN : args.length ≤ 128)
    (h : SW Try.prog 128 k s ⟨argE 0 args, F, k⟩ fun e st' => match e with | .normal => Fin k nk rv Q st' | .ret => Fin k nk rv Q st' | _ => False) : SB Try.prog 24 args F k nk Q :=
  SB.of_body Try.func24 b c r ca hargs hF hN h
end law04_head
/-! ### tranter.vector.Merge -/
namespace vector_Merge
abbrev f : Nat := 25
def s : SCo := (.seq
(.reg [⟨(some 2), .alloc 25 [(.d (.int .u32 0)), (.d (.int .u32 0)), (.d (.int .u32 0)), (.d (.int .u32 0)), (.d (.int .u32 0)), (.d (.int .u32 0)), (.d (.int .u32 0)), (.d (.int .u32 0))], none⟩] (fullB 1) false)
(.seq
(.reg [⟨(some 3), .call (.k (.fn (.func 60) [] [])) [(.k (.fn (.func 61) [] []))], none⟩,
⟨(some 4), .mv (.t 0), none⟩,
⟨(some 5), .call (.k (.fn (.func 59) [] [])) [(.t 3), (.t 4)], none⟩,
⟨none, .store 8 (.t 2) (.t 5), none⟩] (fullB 4) false)
.ret))
def rv : List RV := [.cell 2 (some 8)]
/-! live vector_Merge: [0, 2] -/
theorem c : cK Try.prog Try.f25.ntmps (Try.f25.body.getD .ret) = some s := by kernel_rfl
theorem b : Try.f25.body = some (Try.f25.body.getD .ret) := by kernel_rfl
theorem r : cRV Try.prog Try.f25.results.toList = some rv := by kernel_rfl
theorem ca : Callable Try.prog 25 = true := by kernel_rfl
theorem enter {args : List SV} {F : Hp} {k nk : Nat} {Q : SV → Hp → Prop} (hargs : SV.oks (fun n => decide (n < k)) args = true) (hF : F.ok (fun n => decide (n < k)) = true) (hN : args.length ≤ 6)
    (h : SW Try.prog 6 k s ⟨argE 0 args, F, k⟩ fun e st' => match e with | .normal => Fin k nk rv Q st' | .ret => Fin k nk rv Q st' | _ => False) : SB Try.prog 25 args F k nk Q :=
  SB.of_body Try.func25 b c r ca hargs hF hN h
end vector_Merge
/-! ### tranter.tranterref04.Merge -/
namespace ref04_Merge
abbrev f : Nat := 26
def s : SCo := (.seq
(.reg [⟨(some 2), .alloc 25 [(.d (.int .u32 0)), (.d (.int .u32 0)), (.d (.int .u32 0)), (.d (.int .u32 0)), (.d (.int .u32 0)), (.d (.int .u32 0)), (.d (.int .u32 0)), (.d (.int .u32 0))], none⟩] (fullB 1) false)
(.seq
(.reg [⟨(some 3), .alloc 25 [(.d (.int .u32 0)), (.d (.int .u32 0)), (.d (.int .u32 0)), (.d (.int .u32 0)), (.d (.int .u32 0)), (.d (.int .u32 0)), (.d (.int .u32 0)), (.d (.int .u32 0))], none⟩] (fullB 1) false)
(.seq
(.seq
 (.reg [⟨(some 4), .mv (.k (.d (.int .i64 0))), none⟩] (fullB 1) false)
 (.block 0
 (.loop
 (.seq
 (.seq
  (.reg [⟨(some 6), .mv (.t 4), none⟩,
⟨(some 7), .mv (.t 0), none⟩,
⟨(some 8), .len (.t 7), none⟩,
⟨(some 9), .bin .lss (.t 6) (.t 8), none⟩] (fullB 4) false)
  (.cond (.t 9)
  .skip
  (.exit 0)))
 (.seq
  (.block 1
  (.seq
  (.reg [⟨(some 5), .mv (.k (.d (.int .i64 0))), none⟩] (fullB 1) false)
  (.block 2
  (.loop
   (.seq
   (.seq
   (.reg [⟨(some 12), .mv (.t 5), none⟩,
⟨(some 13), .bin .lss (.t 12) (.k (.d (.int .i64 8))), none⟩] (fullB 2) false)
   (.cond (.t 13)
   .skip
   (.exit 2)))
   (.seq
   (.block 3
   (.reg [⟨(some 16), .mv (.t 5), none⟩,
⟨(some 17), .mv (.t 5), none⟩,
⟨(some 18), .idxA 8 1 (.t 3) (.t 17), none⟩,
⟨(some 19), .load none (.t 18), none⟩,
⟨(some 20), .mv (.t 0), none⟩,
⟨(some 21), .mv (.t 4), none⟩,
⟨(some 22), .mv (.t 5), none⟩,
⟨(some 23), .idxS 8 (.t 20) (.t 21), none⟩,
⟨(some 24), .idxA 8 1 (.t 23) (.t 22), none⟩,
⟨(some 25), .load none (.t 24), none⟩,
⟨(some 26), .mx (.t 19) (.t 25), none⟩,
⟨(some 27), .idxA 8 1 (.t 3) (.t 16), none⟩,
⟨none, .store 1 (.t 27) (.t 26), none⟩] [0,
0,
2,
6,
0,
0,
0,
48,
240,
496,
1022,
2047,
4095] true))
   (.reg [⟨(some 14), .mv (.t 5), none⟩,
⟨(some 15), .bin .add (.t 14) (.k (.d (.int .i64 1))), none⟩,
⟨(some 5), .mv (.t 15), none⟩] (fullB 3) false)))))))
  (.reg [⟨(some 10), .mv (.t 4), none⟩,
⟨(some 11), .bin .add (.t 10) (.k (.d (.int .i64 1))), none⟩,
⟨(some 4), .mv (.t 11), none⟩] (fullB 3) false))))))
(.seq
 (.reg [⟨(some 28), .load (some 8) (.t 3), none⟩,
⟨none, .store 8 (.t 2) (.t 28), none⟩] (fullB 2) false)
 .ret))))
def rv : List RV := [.cell 2 (some 8)]
/-! live ref04_Merge: [0, 2, 3, 4, 5, 9, 13] -/
theorem c : cK Try.prog Try.f26.ntmps (Try.f26.body.getD .ret) = some s := by kernel_rfl
theorem b : Try.f26.body = some (Try.f26.body.getD .ret) := by kernel_rfl
theorem r : cRV Try.prog Try.f26.results.toList = some rv := by kernel_rfl
theorem ca : Callable Try.prog 26 = true := by kernel_rfl
theorem enter {args : List SV} {F : Hp} {k nk : Nat} {Q : SV → Hp → Prop} (hargs : SV.oks (fun n => decide (n < k)) args = true) (hF : F.ok (fun n => decide (n < k)) = true) (hN : args.length ≤ 29)
    (h : SW Try.prog 29 k s ⟨argE 0 args, F, k⟩ fun e st' => match e with | .normal => Fin k nk rv Q st' | .ret => Fin k nk rv Q st' | _ => False) : SB Try.prog 26 args F k nk Q :=
  SB.of_body Try.func26 b c r ca hargs hF hN h
end ref04_Merge
/-! ### tranter.vector.Meet -/
namespace vector_Meet
abbrev f : Nat := 27
def s : SCo := (.seq
(.reg [⟨(some 2), .alloc 25 [(.d (.int .u32 0)), (.d (.int .u32 0)), (.d (.int .u32 0)), (.d (.int .u32 0)), (.d (.int .u32 0)), (.d (.int .u32 0)), (.d (.int .u32 0)), (.d (.int .u32 0))], none⟩] (fullB 1) false)
(.seq
(.reg [⟨(some 3), .call (.k (.fn (.func 60) [] [])) [(.k (.fn (.func 62) [] []))], none⟩,
⟨(some 4), .mv (.t 0), none⟩,
⟨(some 5), .call (.k (.fn (.func 59) [] [])) [(.t 3), (.t 4)], none⟩,
⟨none, .store 8 (.t 2) (.t 5), none⟩] (fullB 4) false)
.ret))
def rv : List RV := [.cell 2 (some 8)]
/-! live vector_Meet: [0, 2] -/
theorem c : cK Try.prog Try.f27.ntmps (Try.f27.body.getD .ret) = some s := by kernel_rfl
theorem b : Try.f27.body = some (Try.f27.body.getD .ret) := by kernel_rfl
theorem r : cRV Try.prog Try.f27.results.toList = some rv := by kernel_rfl
theorem ca : Callable Try.prog 27 = true := by kernel_rfl
theorem enter {args : List SV} {F : Hp} {k nk : Nat} {Q : SV → Hp → Prop} (hargs : SV.oks (fun n => decide (n < k)) args = true) (hF : F.ok (fun n => decide (n < k)) = true) (hN : args.length ≤ 6)
    (h : SW Try.prog 6 k s ⟨argE 0 args, F, k⟩ fun e st' => match e with | .normal => Fin k nk rv Q st' | .ret => Fin k nk rv Q st' | _ => False) : SB Try.prog 27 args F k nk Q :=
  SB.of_body Try.func27 b c r ca hargs hF hN h
end vector_Meet
/-! ### tranter.tranterref04.Meet -/
namespace ref04_Meet
abbrev f : Nat := 28
def s : SCo := (.seq
(.reg [⟨(some 2), .alloc 25 [(.d (.int .u32 0)), (.d (.int .u32 0)), (.d (.int .u32 0)), (.d (.int .u32 0)), (.d (.int .u32 0)), (.d (.int .u32 0)), (.d (.int .u32 0)), (.d (.int .u32 0))], none⟩] (fullB 1) false)
(.seq
(.seq
(.reg [⟨(some 6), .mv (.t 0), none⟩,
⟨(some 7), .len (.t 6), none⟩,
⟨(some 8), .bin .eql (.t 7) (.k (.d (.int .i64 0))), none⟩] (fullB 3) false)
(.cond (.t 8)
 (.seq
 (.reg [⟨(some 9), .bld [(.d (.int .u32 0)), (.d (.int .u32 0)), (.d (.int .u32 0)), (.d (.int .u32 0)), (.d (.int .u32 0)), (.d (.int .u32 0)), (.d (.int .u32 0)), (.d (.int .u32 0))] [], none⟩,
⟨none, .store 8 (.t 2) (.t 9), none⟩] (fullB 2) false)
 .ret)
 .skip))
(.seq
(.reg [⟨(some 10), .mv (.t 0), none⟩,
⟨(some 11), .idxS 8 (.t 10) (.k (.d (.int .i64 0))), none⟩,
⟨(some 12), .load (some 8) (.t 11), none⟩,
⟨(some 3), .alloc 25 [(.d (.int .u32 0)), (.d (.int .u32 0)), (.d (.int .u32 0)), (.d (.int .u32 0)), (.d (.int .u32 0)), (.d (.int .u32 0)), (.d (.int .u32 0)), (.d (.int .u32 0))], none⟩,
⟨none, .store 8 (.t 3) (.t 12), none⟩] (fullB 5) false)
(.seq
 (.seq
 (.reg [⟨(some 4), .mv (.k (.d (.int .i64 0))), none⟩] (fullB 1) false)
 (.block 0
 (.loop
 (.seq
  (.seq
  (.reg [⟨(some 13), .mv (.t 4), none⟩,
⟨(some 14), .mv (.t 0), none⟩,
⟨(some 15), .len (.t 14), none⟩,
⟨(some 16), .bin .lss (.t 13) (.t 15), none⟩] (fullB 4) false)
  (.cond (.t 16)
  .skip
  (.exit 0)))
  (.seq
  (.block 1
  (.seq
  (.reg [⟨(some 5), .mv (.k (.d (.int .i64 0))), none⟩] (fullB 1) false)
  (.block 2
   (.loop
   (.seq
   (.seq
   (.reg [⟨(some 19), .mv (.t 5), none⟩,
⟨(some 20), .bin .lss (.t 19) (.k (.d (.int .i64 8))), none⟩] (fullB 2) false)
   (.cond (.t 20)
    .skip
    (.exit 2)))
   (.seq
   (.block 3
    (.reg [⟨(some 23), .mv (.t 5), none⟩,
⟨(some 24), .mv (.t 5), none⟩,
⟨(some 25), .idxA 8 1 (.t 3) (.t 24), none⟩,
⟨(some 26), .load none (.t 25), none⟩,
⟨(some 27), .mv (.t 0), none⟩,
⟨(some 28), .mv (.t 4), none⟩,
⟨(some 29), .mv (.t 5), none⟩,
⟨(some 30), .idxS 8 (.t 27) (.t 28), none⟩,
⟨(some 31), .idxA 8 1 (.t 30) (.t 29), none⟩,
⟨(some 32), .load none (.t 31), none⟩,
⟨(some 33), .mn (.t 26) (.t 32), none⟩,
⟨(some 34), .idxA 8 1 (.t 3) (.t 23), none⟩,
⟨none, .store 1 (.t 34) (.t 33), none⟩] [0,
0,
2,
6,
0,
0,
0,
48,
240,
496,
1022,
2047,
4095] true))
   (.reg [⟨(some 21), .mv (.t 5), none⟩,
⟨(some 22), .bin .add (.t 21) (.k (.d (.int .i64 1))), none⟩,
⟨(some 5), .mv (.t 22), none⟩] (fullB 3) false)))))))
  (.reg [⟨(some 17), .mv (.t 4), none⟩,
⟨(some 18), .bin .add (.t 17) (.k (.d (.int .i64 1))), none⟩,
⟨(some 4), .mv (.t 18), none⟩] (fullB 3) false))))))
 (.seq
 (.reg [⟨(some 35), .load (some 8) (.t 3), none⟩,
⟨none, .store 8 (.t 2) (.t 35), none⟩] (fullB 2) false)
 .ret)))))
def rv : List RV := [.cell 2 (some 8)]
/-! live ref04_Meet: [0, 2, 3, 4, 5, 8, 16, 20] -/
theorem c : cK Try.prog Try.f28.ntmps (Try.f28.body.getD .ret) = some s := by kernel_rfl
theorem b : Try.f28.body = some (Try.f28.body.getD .ret) := by kernel_rfl
theorem r : cRV Try.prog Try.f28.results.toList = some rv := by kernel_rfl
theorem ca : Callable Try.prog 28 = true := by kernel_rfl
theorem enter {args : List SV} {F : Hp} {k nk : Nat} {Q : SV → Hp → Prop} (hargs : SV.oks (fun n => decide (n < k)) args = true) (hF : F.ok (fun n => decide (n < k)) = true) (hN : args.length ≤ 36)
    (h : SW Try.prog 36 k s ⟨argE 0 args, F, k⟩ fun e st' => match e with | .normal => Fin k nk rv Q st' | .ret => Fin k nk rv Q st' | _ => False) : SB Try.prog 28 args F k nk Q :=
  SB.of_body Try.func28 b c r ca hargs hF hN h
end ref04_Meet
end Go.Proofs.Ytdnjkeeiopcipaa
