/-
  The code of the functions in the small form, by program (gen.py); each is checked against the translation by the kernel.
-/
import Derived.Test.YtkklgckpaajoeaaChecked
import Derived.Test.YtkklgckpaajoeaaSl20
set_option linter.unusedVariables false
set_option linter.unusedSimpArgs false
set_option linter.unusedSectionVars false
namespace Go.Proofs.Ytkklgckpaajoeaa
open Go.Sl Go.Proofs
theorem mixed : Try.prog.follows .mixedOrders = true := by kernel_rfl
abbrev T_ : Nat := 0
abbrev T_func : Nat := 1
abbrev T_int64 : Nat := 2
abbrev T_int : Nat := 3
abbrev T_bool : Nat := 4
abbrev T_uint8 : Nat := 5
abbrev T_abi_BoundsErrorCode : Nat := 6
abbrev T_runtime_boundsError : Nat := 8
abbrev T_string : Nat := 9
abbrev T_runtime_errorString : Nat := 10
abbrev T_runtime_plainError : Nat := 11
abbrev T_uintptr : Nat := 12
abbrev T_struct_msg_string_addr_uintptr : Nat := 13
abbrev T_runtime_errorAddressString : Nat := 14
abbrev T_P_runtime_TypeAssertionError : Nat := 15
abbrev T_P_runtime_PanicNilError : Nat := 16
abbrev T_P_abi_Type : Nat := 17
abbrev T_struct_typ_P_abi_Type : Nat := 18
abbrev T_maps_unhashableTypeError : Nat := 19
abbrev T_interface : Nat := 20
abbrev T_int32 : Nat := 21
abbrev T_uint32 : Nat := 22
abbrev T_struct_R_uint8_N_uint32 : Nat := 23
abbrev T_api_Dot : Nat := 24
abbrev T_uint64 : Nat := 25
abbrev T_api_Errno : Nat := 26
abbrev T_uint64_api_Errno : Nat := 27
abbrev T_func_api_Dot_uint64_api_Errno : Nat := 28
abbrev T_uint64_int : Nat := 29
abbrev T_func_api_Dot_uint64_int : Nat := 30
abbrev T_api_Dot_api_Errno : Nat := 31
abbrev T_func_uint64_api_Dot_api_Errno : Nat := 32
abbrev T_api_Dot_int : Nat := 33
abbrev T_func_uint64_api_Dot_int : Nat := 34
abbrev T_func_api_Dot_bool : Nat := 35
abbrev T_func_api_Dot_api_Dot_int : Nat := 36
abbrev T_func_bool : Nat := 37
abbrev T_func_api_Dot_api_Dot_uint64_bool : Nat := 38
abbrev T_L_api_Dot : Nat := 39
abbrev T_L_api_Dot_api_Errno : Nat := 40
abbrev T_L_api_Dot_int : Nat := 42
abbrev T_func_uint8_uint32_uint32_L_api_Dot_int : Nat := 43
abbrev T_func_L_api_Dot_L_api_Dot_bool : Nat := 44
abbrev T_func_uint8_uint32_uint32_bool : Nat := 45
abbrev T_func_api_Dot_api_Dot_api_Dot_bool : Nat := 46
abbrev T_func_L_api_Dot_L_api_Dot : Nat := 47
abbrev T_func_L_api_Dot_L_api_Dot_L_api_Dot : Nat := 48
abbrev T_uint : Nat := 49
abbrev T_func_int_uint64 : Nat := 50
abbrev T_func_int_int : Nat := 51
abbrev T_func_uint8_uint8_int : Nat := 52
abbrev T_func_uint32_uint32_int : Nat := 53
abbrev T_func_uint8_uint32_api_Dot : Nat := 54
abbrev T_mapAapi_Dot_int : Nat := 55
abbrev T_dot_set : Nat := 56
abbrev T_func_L_api_Dot_dot_set : Nat := 57
abbrev T_func_L_api_Dot : Nat := 58
abbrev T_func_L_api_Dot_api_Dot_L_api_Dot : Nat := 59
abbrev T_func_dot_set_dot_set : Nat := 60
abbrev T_func_L_api_Dot_L_api_Dot_bool_L_api_Dot : Nat := 61
abbrev T_func_L_api_Dot_api_Dot_bool : Nat := 62
abbrev T_L_int : Nat := 63
abbrev T_func_uint8_bool : Nat := 64
abbrev T_func_uint32_bool : Nat := 65
abbrev T_func_func_api_Dot_bool : Nat := 67
abbrev T_iter_SeqAtranter_api_Dot : Nat := 68
abbrev T_func_dot_set_iter_SeqAtranter_api_Dot : Nat := 69
abbrev T_func_dot_set_func_api_Dot_int_bool : Nat := 70
abbrev T_func_api_Dot_int_bool : Nat := 71
abbrev T_func_iter_SeqAtranter_api_Dot_L_api_Dot : Nat := 72
abbrev T_func_L_api_Dot_func_api_Dot_api_Dot_int : Nat := 73
abbrev T_func_uint_int : Nat := 76
abbrev T_slices_sortedHint : Nat := 78
abbrev T_int_slices_sortedHint : Nat := 79
abbrev T_int_bool : Nat := 83
abbrev T_func_uint32_int : Nat := 85
abbrev T_func_uint64_int : Nat := 86
abbrev T_slices_xorshift : Nat := 87
abbrev T_func_int_uint : Nat := 88
abbrev T_func_uint64 : Nat := 89
abbrev T_P_int : Nat := 91
abbrev T_P_slices_xorshift : Nat := 93
abbrev T_int_int : Nat := 94
abbrev T_func_string : Nat := 96
abbrev T_runtime_TypeAssertionError : Nat := 98
abbrev T_A0_P_runtime_PanicNilError : Nat := 99
abbrev T_struct_A0_P_runtime_PanicNilError : Nat := 100
abbrev T_runtime_PanicNilError : Nat := 101
abbrev T_func_int : Nat := 102
abbrev T_abi_TFlag : Nat := 103
abbrev T_abi_Kind : Nat := 104
abbrev T_func_unsafe_Pointer_unsafe_Pointer_bool : Nat := 105
abbrev T_P_uint8 : Nat := 106
abbrev T_abi_NameOff : Nat := 107
abbrev T_abi_TypeOff : Nat := 108
abbrev T_abi_Type : Nat := 110
abbrev T_unsafe_Pointer : Nat := 111
/-! ### tranter.tranterlaw03.DotKeys -/
namespace law03_DotKeys
abbrev f : Nat := 3
def s : SCo := (.seq
(.reg [⟨(some 3), .box 24 (.t 0), none⟩,
⟨(some 4), .box 24 (.t 1), none⟩,
⟨(some 6), .mv (.k (.d (.bool false))), none⟩] (fullB 3) false)
(.seq
(.reg [⟨(some 20), .load (some 2) (.t 3), none⟩,
⟨(some 21), .call (.k (.fn (.func 8) [] [])) [(.t 20)], none⟩,
⟨(some 19), .mv (.t 21), none⟩,
⟨(some 22), .ext 0 (.t 19), none⟩,
⟨(some 23), .ext 1 (.t 19), none⟩,
⟨(some 7), .mv (.t 22), none⟩,
⟨(some 8), .mv (.t 23), none⟩] (fullB 7) false)
(.seq
(.reg [⟨(some 25), .load (some 2) (.t 3), none⟩,
⟨(some 26), .call (.k (.fn (.func 9) [] [])) [(.t 25)], none⟩,
⟨(some 24), .mv (.t 26), none⟩,
⟨(some 27), .ext 0 (.t 24), none⟩,
⟨(some 28), .ext 1 (.t 24), none⟩,
⟨(some 9), .mv (.t 27), none⟩,
⟨(some 10), .mv (.t 28), none⟩] (fullB 7) false)
(.seq
 (.reg [⟨(some 30), .mv (.t 2), none⟩,
⟨(some 31), .call (.k (.fn (.func 10) [] [])) [(.t 30)], none⟩,
⟨(some 29), .mv (.t 31), none⟩,
⟨(some 32), .ext 0 (.t 29), none⟩,
⟨(some 33), .ext 1 (.t 29), none⟩,
⟨(some 11), .alloc 24 [(.d (.int .u8 0)), (.d (.int .u32 0))], none⟩,
⟨none, .store 2 (.t 11) (.t 32), none⟩,
⟨(some 12), .mv (.t 33), none⟩] (fullB 8) false)
 (.seq
 (.reg [⟨(some 35), .mv (.t 2), none⟩,
⟨(some 36), .call (.k (.fn (.func 11) [] [])) [(.t 35)], none⟩,
⟨(some 34), .mv (.t 36), none⟩,
⟨(some 37), .ext 0 (.t 34), none⟩,
⟨(some 38), .ext 1 (.t 34), none⟩,
⟨(some 13), .alloc 24 [(.d (.int .u8 0)), (.d (.int .u32 0))], none⟩,
⟨none, .store 2 (.t 13) (.t 37), none⟩,
⟨(some 14), .mv (.t 38), none⟩] (fullB 8) false)
 (.seq
 (.seq
 (.reg (⟨(some 39), .mv (.t 7), none⟩ ::
⟨(some 40), .mv (.t 9), none⟩ ::
⟨(some 41), .bin .neq (.t 39) (.t 40), none⟩ ::
⟨(some 42), .mv (.t 41), none⟩ ::
⟨(some 43), .mv (.t 8), some (42, false)⟩ ::
⟨(some 44), .mv (.t 10), some (42, false)⟩ ::
⟨(some 45), .bin .neq (.t 43) (.t 44), some (42, false)⟩ ::
⟨(some 46), .pick (.t 42) (.k (.d (.bool true))) (.t 45), none⟩ ::
⟨(some 47), .mv (.t 46), none⟩ ::
⟨(some 48), .load (some 2) (.t 11), some (47, false)⟩ ::
⟨(some 49), .load (some 2) (.t 13), some (47, false)⟩ ::
⟨(some 50), .eqv true [true, true] (.t 48) (.t 49), some (47, false)⟩ ::
⟨(some 51), .pick (.t 47) (.k (.d (.bool true))) (.t 50), none⟩ ::
⟨(some 52), .mv (.t 51), none⟩ ::
⟨(some 53), .mv (.t 12), some (52, false)⟩ ::
⟨(some 54), .mv (.t 14), some (52, false)⟩ ::
⟨(some 55), .bin .neq (.t 53) (.t 54), some (52, false)⟩ ::
⟨(some 56), .pick (.t 52) (.k (.d (.bool true))) (.t 55), none⟩ ::
⟨(some 57), .mv (.t 56), none⟩ ::
⟨(some 58), .load (some 2) (.t 3), some (57, false)⟩ ::
⟨(some 59), .call (.k (.fn (.func 12) [] [])) [(.t 58)], some (57, false)⟩ ::
⟨(some 60), .load (some 2) (.t 3), some (57, false)⟩ ::
⟨(some 61), .call (.k (.fn (.func 13) [] [])) [(.t 60)], some (57, false)⟩ ::
⟨(some 62), .eqb true (.t 59) (.t 61), some (57, false)⟩ ::
⟨(some 63), .pick (.t 57) (.k (.d (.bool true))) (.t 62), none⟩ ::
⟨(some 64), .mv (.t 63), none⟩ ::
⟨(some 65), .load (some 2) (.t 3), some (64, false)⟩ ::
⟨(some 66), .load (some 2) (.t 4), some (64, false)⟩ ::
⟨(some 67), .call (.k (.fn (.func 14) [] [])) [(.t 65), (.t 66)], some (64, false)⟩ ::
⟨(some 68), .load (some 2) (.t 3), some (64, false)⟩ ::
⟨(some 69), .load (some 2) (.t 4), some (64, false)⟩ ::
⟨(some 70), .call (.k (.fn (.func 15) [] [])) [(.t 68), (.t 69)], some (64, false)⟩ ::
⟨(some 71), .bin .neq (.t 67) (.t 70), some (64, false)⟩ ::
⟨(some 72), .pick (.t 64) (.k (.d (.bool true))) (.t 71), none⟩ :: []) (0 ::
0 ::
3 ::
7 ::
15 ::
15 ::
63 ::
127 ::
255 ::
511 ::
511 ::
2047 ::
4095 ::
8191 ::
16383 ::
16383 ::
65535 ::
131071 ::
262143 ::
524287 ::
1048575 ::
524287 ::
4194303 ::
8388607 ::
16777215 ::
33554431 ::
67108863 ::
67108863 ::
268435455 ::
67108863 ::
67108863 ::
2147483647 ::
4294967295 ::
8589934591 :: []) true)
 (.cond (.t 72)
  (.seq
  (.reg [⟨(some 6), .mv (.k (.d (.bool false))), none⟩] (fullB 1) false)
  .ret)
  .skip))
 (.seq
 (.reg [⟨(some 74), .mv (.t 7), none⟩,
⟨(some 75), .call (.k (.fn (.func 10) [] [])) [(.t 74)], none⟩,
⟨(some 73), .mv (.t 75), none⟩,
⟨(some 76), .ext 0 (.t 73), none⟩,
⟨(some 77), .ext 1 (.t 73), none⟩,
⟨(some 15), .alloc 24 [(.d (.int .u8 0)), (.d (.int .u32 0))], none⟩,
⟨none, .store 2 (.t 15) (.t 76), none⟩,
⟨(some 16), .mv (.t 77), none⟩] (fullB 8) false)
 (.seq
  (.reg [⟨(some 79), .load (some 2) (.t 11), none⟩,
⟨(some 80), .call (.k (.fn (.func 8) [] [])) [(.t 79)], none⟩,
⟨(some 78), .mv (.t 80), none⟩,
⟨(some 81), .ext 0 (.t 78), none⟩,
⟨(some 82), .ext 1 (.t 78), none⟩,
⟨(some 17), .mv (.t 81), none⟩,
⟨(some 18), .mv (.t 82), none⟩] (fullB 7) false)
  (.seq
  (.reg (⟨(some 83), .mv (.t 8), none⟩ ::
⟨(some 84), .bin .neq (.t 83) (.k (.d (.int .i64 0))), none⟩ ::
⟨(some 85), .mv (.t 84), none⟩ ::
⟨(some 86), .load (some 2) (.t 15), some (85, false)⟩ ::
⟨(some 87), .load (some 2) (.t 3), some (85, false)⟩ ::
⟨(some 88), .eqv false [true, true] (.t 86) (.t 87), some (85, false)⟩ ::
⟨(some 89), .mv (.t 88), some (85, false)⟩ ::
⟨(some 90), .mv (.t 16), some (89, true)⟩ ::
⟨(some 91), .bin .eql (.t 90) (.k (.d (.int .i64 0))), some (89, true)⟩ ::
⟨(some 92), .pick (.t 89) (.t 91) (.k (.d (.bool false))), some (85, false)⟩ ::
⟨(some 93), .pick (.t 85) (.k (.d (.bool true))) (.t 92), none⟩ ::
⟨(some 94), .mv (.t 93), none⟩ ::
⟨(some 95), .mv (.t 12), some (94, true)⟩ ::
⟨(some 96), .bin .neq (.t 95) (.k (.d (.int .i64 0))), some (94, true)⟩ ::
⟨(some 97), .mv (.t 96), some (94, true)⟩ ::
⟨(some 98), .mv (.t 17), some (97, false)⟩ ::
⟨(some 99), .mv (.t 2), some (97, false)⟩ ::
⟨(some 100), .bin .eql (.t 98) (.t 99), some (97, false)⟩ ::
⟨(some 101), .mv (.t 100), some (97, false)⟩ ::
⟨(some 102), .mv (.t 18), some (101, true)⟩ ::
⟨(some 103), .bin .eql (.t 102) (.k (.d (.int .i64 0))), some (101, true)⟩ ::
⟨(some 104), .pick (.t 101) (.t 103) (.k (.d (.bool false))), some (97, false)⟩ ::
⟨(some 105), .pick (.t 97) (.k (.d (.bool true))) (.t 104), some (94, true)⟩ ::
⟨(some 106), .pick (.t 94) (.t 105) (.k (.d (.bool false))), none⟩ ::
⟨(some 107), .mv (.t 106), none⟩ ::
⟨(some 108), .call (.k (.fn (.func 16) [] [])) [], some (107, true)⟩ ::
⟨(some 109), .pick (.t 107) (.t 108) (.k (.d (.bool false))), none⟩ ::
⟨(some 6), .mv (.t 109), none⟩ :: []) (fullB 28) false)
  .ret)))))))))
def rv : List RV := [.tmp 6]
/-! live law03_DotKeys: [0, 1, 2, 3, 4, 6, 7, 8, 9, 10, 11, 12, 13, 14, 15, 16, 17, 18, 72] -/
theorem c : cK Try.prog Try.f3.ntmps (Try.f3.body.getD .ret) = some s := by kernel_rfl
theorem b : Try.f3.body = some (Try.f3.body.getD .ret) := by kernel_rfl
theorem r : cRV Try.prog Try.f3.results.toList = some rv := by kernel_rfl
theorem ca : Callable Try.prog 3 = true := by kernel_rfl
theorem enter {args : List SV} {F : Hp} {k nk : Nat} {Q : SV → Hp → Prop} (hargs : SV.oks (fun n => decide (n < k)) args = true) (hF : F.ok (fun n => decide (n < k)) = true) (hN : args.length ≤ 110)
    (h : SW Try.prog 110 k s ⟨argE 0 args, F, k⟩ fun e st' => match e with | .normal => Fin k nk rv Q st' | .ret => Fin k nk rv Q st' | _ => False) : SB Try.prog 3 args F k nk Q :=
  SB.of_body Try.func3 b c r ca hargs hF hN h
end law03_DotKeys
/-! ### tranter.tranterlaw03.DotRange -/
namespace law03_DotRange
abbrev f : Nat := 4
def s : SCo := (.seq
(.reg [⟨(some 6), .mv (.k (.d (.bool false))), none⟩] (fullB 1) false)
(.seq
(.reg [⟨(some 12), .mv (.t 0), none⟩,
⟨(some 13), .mv (.t 1), none⟩,
⟨(some 14), .mv (.t 2), none⟩,
⟨(some 15), .call (.k (.fn (.func 17) [] [])) [(.t 12), (.t 13), (.t 14)], none⟩,
⟨(some 11), .mv (.t 15), none⟩,
⟨(some 16), .ext 0 (.t 11), none⟩,
⟨(some 17), .ext 1 (.t 11), none⟩,
⟨(some 7), .mv (.t 16), none⟩,
⟨(some 8), .mv (.t 17), none⟩] (fullB 9) false)
(.seq
(.reg [⟨(some 19), .mv (.t 0), none⟩,
⟨(some 20), .mv (.t 1), none⟩,
⟨(some 21), .mv (.t 2), none⟩,
⟨(some 22), .call (.k (.fn (.func 18) [] [])) [(.t 19), (.t 20), (.t 21)], none⟩,
⟨(some 18), .mv (.t 22), none⟩,
⟨(some 23), .ext 0 (.t 18), none⟩,
⟨(some 24), .ext 1 (.t 18), none⟩,
⟨(some 9), .mv (.t 23), none⟩,
⟨(some 10), .mv (.t 24), none⟩] (fullB 9) false)
(.seq
 (.reg [⟨(some 25), .mv (.t 7), none⟩,
⟨(some 26), .mv (.t 9), none⟩,
⟨(some 27), .call (.k (.fn (.func 19) [] [])) [(.t 25), (.t 26)], none⟩,
⟨(some 28), .mv (.t 27), none⟩,
⟨(some 29), .mv (.t 8), some (28, true)⟩,
⟨(some 30), .mv (.t 10), some (28, true)⟩,
⟨(some 31), .bin .eql (.t 29) (.t 30), some (28, true)⟩,
⟨(some 32), .pick (.t 28) (.t 31) (.k (.d (.bool false))), none⟩,
⟨(some 33), .mv (.t 32), none⟩,
⟨(some 34), .call (.k (.fn (.func 16) [] [])) [], some (33, true)⟩,
⟨(some 35), .pick (.t 33) (.t 34) (.k (.d (.bool false))), none⟩,
⟨(some 6), .mv (.t 35), none⟩] (fullB 12) false)
 .ret))))
def rv : List RV := [.tmp 6]
/-! live law03_DotRange: [0, 1, 2, 6, 7, 8, 9, 10] -/
theorem c : cK Try.prog Try.f4.ntmps (Try.f4.body.getD .ret) = some s := by kernel_rfl
theorem b : Try.f4.body = some (Try.f4.body.getD .ret) := by kernel_rfl
theorem r : cRV Try.prog Try.f4.results.toList = some rv := by kernel_rfl
theorem ca : Callable Try.prog 4 = true := by kernel_rfl
theorem enter {args : List SV} {F : Hp} {k nk : Nat} {Q : SV → Hp → Prop} (hargs : SV.oks (fun n => decide (n < k)) args = true) (hF : F.ok (fun n => decide (n < k)) = true) (hN : args.length ≤ 36)
    (h : SW Try.prog 36 k s ⟨argE 0 args, F, k⟩ fun e st' => match e with | .normal => Fin k nk rv Q st' | .ret => Fin k nk rv Q st' | _ => False) : SB Try.prog 4 args F k nk Q :=
  SB.of_body Try.func4 b c r ca hargs hF hN h
end law03_DotRange
/-! ### tranter.tranterlaw03.DotOrder -/
namespace law03_DotOrder
abbrev f : Nat := 5
def s : SCo := (.seq
(.reg [⟨(some 3), .box 24 (.t 0), none⟩,
⟨(some 4), .box 24 (.t 1), none⟩,
⟨(some 5), .box 24 (.t 2), none⟩,
⟨(some 6), .mv (.k (.d (.bool false))), none⟩] (fullB 4) false)
(.seq
(.seq
(.reg (⟨(some 11), .load (some 2) (.t 3), none⟩ ::
⟨(some 12), .load (some 2) (.t 4), none⟩ ::
⟨(some 13), .call (.k (.fn (.func 14) [] [])) [(.t 11), (.t 12)], none⟩ ::
⟨(some 14), .load (some 2) (.t 4), none⟩ ::
⟨(some 15), .load (some 2) (.t 3), none⟩ ::
⟨(some 16), .call (.k (.fn (.func 14) [] [])) [(.t 14), (.t 15)], none⟩ ::
⟨(some 17), .neg (.t 16), none⟩ ::
⟨(some 18), .bin .neq (.t 13) (.t 17), none⟩ ::
⟨(some 19), .mv (.t 18), none⟩ ::
⟨(some 20), .load (some 2) (.t 3), some (19, false)⟩ ::
⟨(some 21), .load (some 2) (.t 4), some (19, false)⟩ ::
⟨(some 22), .call (.k (.fn (.func 14) [] [])) [(.t 20), (.t 21)], some (19, false)⟩ ::
⟨(some 23), .bin .eql (.t 22) (.k (.d (.int .i64 0))), some (19, false)⟩ ::
⟨(some 24), .load (some 2) (.t 3), some (19, false)⟩ ::
⟨(some 25), .load (some 2) (.t 4), some (19, false)⟩ ::
⟨(some 26), .eqv false [true, true] (.t 24) (.t 25), some (19, false)⟩ ::
⟨(some 27), .eqb true (.t 23) (.t 26), some (19, false)⟩ ::
⟨(some 28), .pick (.t 19) (.k (.d (.bool true))) (.t 27), none⟩ ::
⟨(some 29), .mv (.t 28), none⟩ ::
⟨(some 30), .load (some 2) (.t 3), some (29, false)⟩ ::
⟨(some 31), .load (some 2) (.t 4), some (29, false)⟩ ::
⟨(some 32), .call (.k (.fn (.func 14) [] [])) [(.t 30), (.t 31)], some (29, false)⟩ ::
⟨(some 33), .bin .leq (.t 32) (.k (.d (.int .i64 0))), some (29, false)⟩ ::
⟨(some 34), .mv (.t 33), some (29, false)⟩ ::
⟨(some 35), .load (some 2) (.t 4), some (34, true)⟩ ::
⟨(some 36), .load (some 2) (.t 5), some (34, true)⟩ ::
⟨(some 37), .call (.k (.fn (.func 14) [] [])) [(.t 35), (.t 36)], some (34, true)⟩ ::
⟨(some 38), .bin .leq (.t 37) (.k (.d (.int .i64 0))), some (34, true)⟩ ::
⟨(some 39), .pick (.t 34) (.t 38) (.k (.d (.bool false))), some (29, false)⟩ ::
⟨(some 40), .mv (.t 39), some (29, false)⟩ ::
⟨(some 41), .load (some 2) (.t 3), some (40, true)⟩ ::
⟨(some 42), .load (some 2) (.t 5), some (40, true)⟩ ::
⟨(some 43), .call (.k (.fn (.func 14) [] [])) [(.t 41), (.t 42)], some (40, true)⟩ ::
⟨(some 44), .bin .gtr (.t 43) (.k (.d (.int .i64 0))), some (40, true)⟩ ::
⟨(some 45), .pick (.t 40) (.t 44) (.k (.d (.bool false))), some (29, false)⟩ ::
⟨(some 46), .pick (.t 29) (.k (.d (.bool true))) (.t 45), none⟩ :: []) (0 ::
0 ::
3 ::
0 ::
0 ::
31 ::
63 ::
127 ::
255 ::
511 ::
511 ::
2047 ::
4095 ::
511 ::
511 ::
25087 ::
65535 ::
131071 ::
262143 ::
524287 ::
524287 ::
2097151 ::
4194303 ::
8388607 ::
16777215 ::
16777215 ::
67108863 ::
134217727 ::
268435455 ::
536870911 ::
1073741823 ::
1073741823 ::
4294967295 ::
8589934591 ::
17179869183 ::
34359738367 :: []) true)
(.cond (.t 46)
 (.seq
 (.reg [⟨(some 6), .mv (.k (.d (.bool false))), none⟩] (fullB 1) false)
 .ret)
 .skip))
(.seq
(.reg [⟨(some 48), .load (some 2) (.t 3), none⟩,
⟨(some 49), .call (.k (.fn (.func 8) [] [])) [(.t 48)], none⟩,
⟨(some 47), .mv (.t 49), none⟩,
⟨(some 50), .ext 0 (.t 47), none⟩,
⟨(some 51), .ext 1 (.t 47), none⟩,
⟨(some 7), .mv (.t 50), none⟩,
⟨(some 8), .mv (.t 51), none⟩] (fullB 7) false)
(.seq
 (.reg [⟨(some 53), .load (some 2) (.t 4), none⟩,
⟨(some 54), .call (.k (.fn (.func 8) [] [])) [(.t 53)], none⟩,
⟨(some 52), .mv (.t 54), none⟩,
⟨(some 55), .ext 0 (.t 52), none⟩,
⟨(some 56), .ext 1 (.t 52), none⟩,
⟨(some 9), .mv (.t 55), none⟩,
⟨(some 10), .mv (.t 56), none⟩] (fullB 7) false)
 (.seq
 (.seq
 (.reg [⟨(some 57), .mv (.t 8), none⟩,
⟨(some 58), .bin .neq (.t 57) (.k (.d (.int .i64 0))), none⟩,
⟨(some 59), .mv (.t 58), none⟩,
⟨(some 60), .mv (.t 10), some (59, false)⟩,
⟨(some 61), .bin .neq (.t 60) (.k (.d (.int .i64 0))), some (59, false)⟩,
⟨(some 62), .pick (.t 59) (.k (.d (.bool true))) (.t 61), none⟩] (fullB 6) false)
 (.cond (.t 62)
 (.seq
  (.reg [⟨(some 63), .call (.k (.fn (.func 16) [] [])) [], none⟩,
⟨(some 6), .mv (.t 63), none⟩] (fullB 2) false)
  .ret)
 .skip))
 (.seq
 (.reg (⟨(some 64), .mv (.t 7), none⟩ ::
⟨(some 65), .mv (.t 9), none⟩ ::
⟨(some 66), .bin .eql (.t 64) (.t 65), none⟩ ::
⟨(some 67), .load (some 2) (.t 3), none⟩ ::
⟨(some 68), .load (some 2) (.t 4), none⟩ ::
⟨(some 69), .eqv false [true, true] (.t 67) (.t 68), none⟩ ::
⟨(some 70), .eqb false (.t 66) (.t 69), none⟩ ::
⟨(some 71), .mv (.t 70), none⟩ ::
⟨(some 72), .fld 0 (.t 3), some (71, true)⟩ ::
⟨(some 73), .load none (.t 72), some (71, true)⟩ ::
⟨(some 74), .fld 0 (.t 4), some (71, true)⟩ ::
⟨(some 75), .load none (.t 74), some (71, true)⟩ ::
⟨(some 76), .bin .neq (.t 73) (.t 75), some (71, true)⟩ ::
⟨(some 77), .mv (.t 76), some (71, true)⟩ ::
⟨(some 78), .mv (.t 7), some (77, false)⟩ ::
⟨(some 79), .mv (.t 9), some (77, false)⟩ ::
⟨(some 80), .bin .lss (.t 78) (.t 79), some (77, false)⟩ ::
⟨(some 81), .load (some 2) (.t 3), some (77, false)⟩ ::
⟨(some 82), .load (some 2) (.t 4), some (77, false)⟩ ::
⟨(some 83), .call (.k (.fn (.func 14) [] [])) [(.t 81), (.t 82)], some (77, false)⟩ ::
⟨(some 84), .bin .lss (.t 83) (.k (.d (.int .i64 0))), some (77, false)⟩ ::
⟨(some 85), .eqb false (.t 80) (.t 84), some (77, false)⟩ ::
⟨(some 86), .pick (.t 77) (.k (.d (.bool true))) (.t 85), some (71, true)⟩ ::
⟨(some 87), .pick (.t 71) (.t 86) (.k (.d (.bool false))), none⟩ ::
⟨(some 88), .mv (.t 87), none⟩ ::
⟨(some 89), .call (.k (.fn (.func 16) [] [])) [], some (88, true)⟩ ::
⟨(some 90), .pick (.t 88) (.t 89) (.k (.d (.bool false))), none⟩ ::
⟨(some 6), .mv (.t 90), none⟩ :: []) (fullB 28) false)
 .ret))))))
def rv : List RV := [.tmp 6]
/-! live law03_DotOrder: [0, 1, 2, 3, 4, 5, 6, 7, 8, 9, 10, 46, 62] -/
theorem c : cK Try.prog Try.f5.ntmps (Try.f5.body.getD .ret) = some s := by kernel_rfl
theorem b : Try.f5.body = some (Try.f5.body.getD .ret) := by kernel_rfl
theorem r : cRV Try.prog Try.f5.results.toList = some rv := by kernel_rfl
theorem ca : Callable Try.prog 5 = true := by kernel_rfl
theorem enter {args : List SV} {F : Hp} {k nk : Nat} {Q : SV → Hp → Prop} (hargs : SV.oks (fun n => decide (n < k)) args = true) (hF : F.ok (fun n => decide (n < k)) = true) (hN : args.length ≤ 91)
    (h : SW Try.prog 91 k s ⟨argE 0 args, F, k⟩ fun e st' => match e with | .normal => Fin k nk rv Q st' | .ret => Fin k nk rv Q st' | _ => False) : SB Try.prog 5 args F k nk Q :=
  SB.of_body Try.func5 b c r ca hargs hF hN h
end law03_DotOrder
/-! ### tranter.tranterlaw03.DotSets -/
namespace law03_DotSets
abbrev f : Nat := 6
def s : SCo := (.seq
(.reg [⟨(some 4), .mv (.k (.d (.bool false))), none⟩] (fullB 1) false)
(.seq
(.seq
(.reg [⟨(some 5), .mv (.t 0), none⟩,
⟨(some 6), .len (.t 5), none⟩,
⟨(some 7), .bin .gtr (.t 6) (.k (.d (.int .i64 60))), none⟩,
⟨(some 8), .mv (.t 7), none⟩,
⟨(some 9), .mv (.t 1), some (8, false)⟩,
⟨(some 10), .len (.t 9), some (8, false)⟩,
⟨(some 11), .bin .gtr (.t 10) (.k (.d (.int .i64 60))), some (8, false)⟩,
⟨(some 12), .pick (.t 8) (.k (.d (.bool true))) (.t 11), none⟩] (fullB 8) false)
(.cond (.t 12)
 (.seq
 (.reg [⟨(some 13), .call (.k (.fn (.func 16) [] [])) [], none⟩,
⟨(some 4), .mv (.t 13), none⟩] (fullB 2) false)
 .ret)
 .skip))
(.seq
(.reg (⟨(some 14), .mv (.t 0), none⟩ ::
⟨(some 15), .call (.k (.fn (.func 20) [] [])) [(.t 14)], none⟩ ::
⟨(some 16), .mv (.t 0), none⟩ ::
⟨(some 17), .call (.k (.fn (.func 21) [] [])) [(.t 16)], none⟩ ::
⟨(some 18), .call (.k (.fn (.func 19) [] [])) [(.t 15), (.t 17)], none⟩ ::
⟨(some 19), .mv (.t 18), none⟩ ::
⟨(some 20), .mv (.t 0), some (19, true)⟩ ::
⟨(some 21), .mv (.t 1), some (19, true)⟩ ::
⟨(some 22), .call (.k (.fn (.func 22) [] [])) [(.t 20), (.t 21)], some (19, true)⟩ ::
⟨(some 23), .mv (.t 0), some (19, true)⟩ ::
⟨(some 24), .mv (.t 1), some (19, true)⟩ ::
⟨(some 25), .call (.k (.fn (.func 23) [] [])) [(.t 23), (.t 24)], some (19, true)⟩ ::
⟨(some 26), .call (.k (.fn (.func 19) [] [])) [(.t 22), (.t 25)], some (19, true)⟩ ::
⟨(some 27), .pick (.t 19) (.t 26) (.k (.d (.bool false))), none⟩ ::
⟨(some 28), .mv (.t 27), none⟩ ::
⟨(some 29), .mv (.t 0), some (28, true)⟩ ::
⟨(some 30), .mv (.t 1), some (28, true)⟩ ::
⟨(some 31), .call (.k (.fn (.func 24) [] [])) [(.t 29), (.t 30)], some (28, true)⟩ ::
⟨(some 32), .mv (.t 0), some (28, true)⟩ ::
⟨(some 33), .mv (.t 1), some (28, true)⟩ ::
⟨(some 34), .call (.k (.fn (.func 25) [] [])) [(.t 32), (.t 33)], some (28, true)⟩ ::
⟨(some 35), .call (.k (.fn (.func 19) [] [])) [(.t 31), (.t 34)], some (28, true)⟩ ::
⟨(some 36), .pick (.t 28) (.t 35) (.k (.d (.bool false))), none⟩ ::
⟨(some 37), .mv (.t 36), none⟩ ::
⟨(some 38), .mv (.t 0), some (37, true)⟩ ::
⟨(some 39), .mv (.t 1), some (37, true)⟩ ::
⟨(some 40), .call (.k (.fn (.func 26) [] [])) [(.t 38), (.t 39)], some (37, true)⟩ ::
⟨(some 41), .mv (.t 0), some (37, true)⟩ ::
⟨(some 42), .mv (.t 1), some (37, true)⟩ ::
⟨(some 43), .call (.k (.fn (.func 27) [] [])) [(.t 41), (.t 42)], some (37, true)⟩ ::
⟨(some 44), .call (.k (.fn (.func 19) [] [])) [(.t 40), (.t 43)], some (37, true)⟩ ::
⟨(some 45), .pick (.t 37) (.t 44) (.k (.d (.bool false))), none⟩ ::
⟨(some 46), .mv (.t 45), none⟩ ::
⟨(some 47), .call (.k (.fn (.func 16) [] [])) [], some (46, true)⟩ ::
⟨(some 48), .pick (.t 46) (.t 47) (.k (.d (.bool false))), none⟩ ::
⟨(some 4), .mv (.t 48), none⟩ :: []) (fullB 36) false)
.ret)))
def rv : List RV := [.tmp 4]
/-! live law03_DotSets: [0, 1, 4, 12] -/
theorem c : cK Try.prog Try.f6.ntmps (Try.f6.body.getD .ret) = some s := by kernel_rfl
theorem b : Try.f6.body = some (Try.f6.body.getD .ret) := by kernel_rfl
theorem r : cRV Try.prog Try.f6.results.toList = some rv := by kernel_rfl
theorem ca : Callable Try.prog 6 = true := by kernel_rfl
theorem enter {args : List SV} {F : Hp} {k nk : Nat} {Q : SV → Hp → Prop} (hargs : SV.oks (fun n => decide (n < k)) args = true) (hF : F.ok (fun n => decide (n < k)) = true) (hN : args.length ≤ 49)
    (h : SW Try.prog 49 k s ⟨argE 0 args, F, k⟩ fun e st' => match e with | .normal => Fin k nk rv Q st' | .ret => Fin k nk rv Q st' | _ => False) : SB Try.prog 6 args F k nk Q :=
  SB.of_body Try.func6 b c r ca hargs hF hN h
end law03_DotSets
/-! ### tranter.tranterlaw03.DotSums -/
namespace law03_DotSums
abbrev f : Nat := 7
def s : SCo := (.seq
(.reg [⟨(some 4), .mv (.k (.d (.bool false))), none⟩] (fullB 1) false)
(.seq
(.seq
(.reg [⟨(some 10), .mv (.t 0), none⟩,
⟨(some 11), .len (.t 10), none⟩,
⟨(some 12), .bin .gtr (.t 11) (.k (.d (.int .i64 300))), none⟩,
⟨(some 13), .mv (.t 12), none⟩,
⟨(some 14), .mv (.t 1), some (13, false)⟩,
⟨(some 15), .len (.t 14), some (13, false)⟩,
⟨(some 16), .bin .gtr (.t 15) (.k (.d (.int .i64 300))), some (13, false)⟩,
⟨(some 17), .pick (.t 13) (.k (.d (.bool true))) (.t 16), none⟩] (fullB 8) false)
(.cond (.t 17)
 (.seq
 (.reg [⟨(some 18), .call (.k (.fn (.func 16) [] [])) [], none⟩,
⟨(some 4), .mv (.t 18), none⟩] (fullB 2) false)
 .ret)
 .skip))
(.seq
(.reg [⟨(some 19), .mv (.t 0), none⟩,
⟨(some 20), .call (.k (.fn (.func 20) [] [])) [(.t 19)], none⟩,
⟨(some 21), .mv (.t 0), none⟩,
⟨(some 22), .mv (.t 1), none⟩,
⟨(some 23), .call (.k (.fn (.func 22) [] [])) [(.t 21), (.t 22)], none⟩,
⟨(some 24), .mv (.t 0), none⟩,
⟨(some 25), .mv (.t 1), none⟩,
⟨(some 26), .call (.k (.fn (.func 24) [] [])) [(.t 24), (.t 25)], none⟩,
⟨(some 27), .mv (.t 0), none⟩,
⟨(some 28), .mv (.t 1), none⟩,
⟨(some 29), .call (.k (.fn (.func 26) [] [])) [(.t 27), (.t 28)], none⟩,
⟨(some 5), .mv (.t 20), none⟩,
⟨(some 6), .mv (.t 23), none⟩,
⟨(some 7), .mv (.t 26), none⟩,
⟨(some 8), .mv (.t 29), none⟩] (fullB 15) false)
(.seq
 (.seq
 (.reg [⟨(some 9), .mv (.k (.d (.int .i64 1))), none⟩] (fullB 1) false)
 (.block 0
 (.loop
 (.seq
  (.seq
  (.reg [⟨(some 30), .mv (.t 9), none⟩,
⟨(some 31), .mv (.t 6), none⟩,
⟨(some 32), .len (.t 31), none⟩,
⟨(some 33), .bin .lss (.t 30) (.t 32), none⟩] (fullB 4) false)
  (.cond (.t 33)
  .skip
  (.exit 0)))
  (.seq
  (.block 1
  (.seq
  (.reg [⟨(some 36), .mv (.t 6), none⟩,
⟨(some 37), .mv (.t 9), none⟩,
⟨(some 38), .bin .sub (.t 37) (.k (.d (.int .i64 1))), none⟩,
⟨(some 39), .idxS 2 (.t 36) (.t 38), none⟩,
⟨(some 40), .load (some 2) (.t 39), none⟩,
⟨(some 41), .mv (.t 6), none⟩,
⟨(some 42), .mv (.t 9), none⟩,
⟨(some 43), .idxS 2 (.t 41) (.t 42), none⟩,
⟨(some 44), .load (some 2) (.t 43), none⟩,
⟨(some 45), .call (.k (.fn (.func 14) [] [])) [(.t 40), (.t 44)], none⟩,
⟨(some 46), .bin .neq (.t 45) (.k (.d (.int .i64 (-1)))), none⟩] [0,
0,
2,
7,
15,
0,
0,
96,
224,
511,
1023] true)
  (.cond (.t 46)
   (.seq
   (.reg [⟨(some 4), .mv (.k (.d (.bool false))), none⟩] (fullB 1) false)
   .ret)
   .skip)))
  (.reg [⟨(some 34), .mv (.t 9), none⟩,
⟨(some 35), .bin .add (.t 34) (.k (.d (.int .i64 1))), none⟩,
⟨(some 9), .mv (.t 35), none⟩] (fullB 3) false))))))
 (.seq
 (.reg (⟨(some 47), .mv (.t 7), none⟩ ::
⟨(some 48), .len (.t 47), none⟩ ::
⟨(some 49), .mv (.t 8), none⟩ ::
⟨(some 50), .len (.t 49), none⟩ ::
⟨(some 51), .bin .add (.t 48) (.t 50), none⟩ ::
⟨(some 52), .mv (.t 5), none⟩ ::
⟨(some 53), .len (.t 52), none⟩ ::
⟨(some 54), .bin .eql (.t 51) (.t 53), none⟩ ::
⟨(some 55), .mv (.t 54), none⟩ ::
⟨(some 56), .mv (.t 7), some (55, true)⟩ ::
⟨(some 57), .mv (.t 8), some (55, true)⟩ ::
⟨(some 58), .call (.k (.fn (.func 22) [] [])) [(.t 56), (.t 57)], some (55, true)⟩ ::
⟨(some 59), .mv (.t 5), some (55, true)⟩ ::
⟨(some 60), .call (.k (.fn (.func 19) [] [])) [(.t 58), (.t 59)], some (55, true)⟩ ::
⟨(some 61), .pick (.t 55) (.t 60) (.k (.d (.bool false))), none⟩ ::
⟨(some 62), .mv (.t 61), none⟩ ::
⟨(some 63), .mv (.t 8), some (62, true)⟩ ::
⟨(some 64), .mv (.t 1), some (62, true)⟩ ::
⟨(some 65), .call (.k (.fn (.func 22) [] [])) [(.t 63), (.t 64)], some (62, true)⟩ ::
⟨(some 66), .mv (.t 6), some (62, true)⟩ ::
⟨(some 67), .call (.k (.fn (.func 19) [] [])) [(.t 65), (.t 66)], some (62, true)⟩ ::
⟨(some 68), .pick (.t 62) (.t 67) (.k (.d (.bool false))), none⟩ ::
⟨(some 69), .mv (.t 68), none⟩ ::
⟨(some 70), .mv (.t 1), some (69, true)⟩ ::
⟨(some 71), .mv (.t 0), some (69, true)⟩ ::
⟨(some 72), .call (.k (.fn (.func 22) [] [])) [(.t 70), (.t 71)], some (69, true)⟩ ::
⟨(some 73), .mv (.t 6), some (69, true)⟩ ::
⟨(some 74), .call (.k (.fn (.func 19) [] [])) [(.t 72), (.t 73)], some (69, true)⟩ ::
⟨(some 75), .pick (.t 69) (.t 74) (.k (.d (.bool false))), none⟩ ::
⟨(some 76), .mv (.t 75), none⟩ ::
⟨(some 77), .mv (.t 1), some (76, true)⟩ ::
⟨(some 78), .mv (.t 0), some (76, true)⟩ ::
⟨(some 79), .call (.k (.fn (.func 24) [] [])) [(.t 77), (.t 78)], some (76, true)⟩ ::
⟨(some 80), .mv (.t 7), some (76, true)⟩ ::
⟨(some 81), .call (.k (.fn (.func 19) [] [])) [(.t 79), (.t 80)], some (76, true)⟩ ::
⟨(some 82), .pick (.t 76) (.t 81) (.k (.d (.bool false))), none⟩ ::
⟨(some 83), .mv (.t 82), none⟩ ::
⟨(some 84), .mv (.t 6), some (83, true)⟩ ::
⟨(some 85), .call (.k (.fn (.func 20) [] [])) [(.t 84)], some (83, true)⟩ ::
⟨(some 86), .mv (.t 6), some (83, true)⟩ ::
⟨(some 87), .call (.k (.fn (.func 19) [] [])) [(.t 85), (.t 86)], some (83, true)⟩ ::
⟨(some 88), .pick (.t 83) (.t 87) (.k (.d (.bool false))), none⟩ ::
⟨(some 89), .mv (.t 88), none⟩ ::
⟨(some 90), .mv (.t 8), some (89, true)⟩ ::
⟨(some 91), .mv (.t 1), some (89, true)⟩ ::
⟨(some 92), .call (.k (.fn (.func 24) [] [])) [(.t 90), (.t 91)], some (89, true)⟩ ::
⟨(some 93), .len (.t 92), some (89, true)⟩ ::
⟨(some 94), .bin .eql (.t 93) (.k (.d (.int .i64 0))), some (89, true)⟩ ::
⟨(some 95), .pick (.t 89) (.t 94) (.k (.d (.bool false))), none⟩ ::
⟨(some 96), .mv (.t 95), none⟩ ::
⟨(some 97), .call (.k (.fn (.func 16) [] [])) [], some (96, true)⟩ ::
⟨(some 98), .pick (.t 96) (.t 97) (.k (.d (.bool false))), none⟩ ::
⟨(some 4), .mv (.t 98), none⟩ :: []) (fullB 53) false)
 .ret)))))
def rv : List RV := [.tmp 4]
/-! live law03_DotSums: [0, 1, 4, 5, 6, 7, 8, 9, 17, 33, 46] -/
theorem c : cK Try.prog Try.f7.ntmps (Try.f7.body.getD .ret) = some s := by kernel_rfl
theorem b : Try.f7.body = some (Try.f7.body.getD .ret) := by kernel_rfl
theorem r : cRV Try.prog Try.f7.results.toList = some rv := by kernel_rfl
theorem ca : Callable Try.prog 7 = true := by kernel_rfl
theorem enter {args : List SV} {F : Hp} {k nk : Nat} {Q : SV → Hp → Prop} (hargs : SV.oks (fun n => decide (n < k)) args = true) (hF : F.ok (fun n => decide (n < k)) = true) (hN : args.length ≤ 99)
    (h : SW Try.prog 99 k s ⟨argE 0 args, F, k⟩ fun e st' => match e with | .normal => Fin k nk rv Q st' | .ret => Fin k nk rv Q st' | _ => False) : SB Try.prog 7 args F k nk Q :=
  SB.of_body Try.func7 b c r ca hargs hF hN h
end law03_DotSums
/-! ### tranter.dot.Key -/
namespace dot_Key
abbrev f : Nat := 8
def s : SCo := (.seq
(.reg [⟨(some 1), .box 24 (.t 0), none⟩,
⟨(some 2), .mv (.k (.d (.int .u64 0))), none⟩,
⟨(some 3), .mv (.k (.d (.int .i64 0))), none⟩] (fullB 3) false)
(.seq
(.seq
(.reg [⟨(some 4), .load (some 2) (.t 1), none⟩,
⟨(some 5), .call (.k (.fn (.func 12) [] [])) [(.t 4)], none⟩,
⟨(some 6), .not (.t 5), none⟩] (fullB 3) false)
(.cond (.t 6)
 (.seq
 (.reg [⟨(some 2), .mv (.k (.d (.int .u64 0))), none⟩,
⟨(some 3), .mv (.k (.d (.int .i64 2))), none⟩] (fullB 2) false)
 .ret)
 .skip))
(.seq
(.reg [⟨(some 7), .fld 1 (.t 1), none⟩,
⟨(some 8), .load none (.t 7), none⟩,
⟨(some 9), .conv .u64 (.t 8), none⟩,
⟨(some 10), .bin .shl (.t 9) (.k (.d (.int .u64 3))), none⟩,
⟨(some 11), .fld 0 (.t 1), none⟩,
⟨(some 12), .load none (.t 11), none⟩,
⟨(some 13), .conv .u64 (.t 12), none⟩,
⟨(some 14), .bin .or (.t 10) (.t 13), none⟩,
⟨(some 2), .mv (.t 14), none⟩,
⟨(some 3), .mv (.k (.d (.int .i64 0))), none⟩] (fullB 10) false)
.ret)))
def rv : List RV := [.tmp 2, .tmp 3]
/-! live dot_Key: [0, 1, 2, 3, 6] -/
theorem c : cK Try.prog Try.f8.ntmps (Try.f8.body.getD .ret) = some s := by kernel_rfl
theorem b : Try.f8.body = some (Try.f8.body.getD .ret) := by kernel_rfl
theorem r : cRV Try.prog Try.f8.results.toList = some rv := by kernel_rfl
theorem ca : Callable Try.prog 8 = true := by kernel_rfl
theorem enter {args : List SV} {F : Hp} {k nk : Nat} {Q : SV → Hp → Prop} (hargs : SV.oks (fun n => decide (n < k)) args = true) (hF : F.ok (fun n => decide (n < k)) = true) (hN : args.length ≤ 15)
    (h : SW Try.prog 15 k s ⟨argE 0 args, F, k⟩ fun e st' => match e with | .normal => Fin k nk rv Q st' | .ret => Fin k nk rv Q st' | _ => False) : SB Try.prog 8 args F k nk Q :=
  SB.of_body Try.func8 b c r ca hargs hF hN h
end dot_Key
/-! ### tranter.tranterref03.Key -/
namespace ref03_Key
abbrev f : Nat := 9
def s : SCo := (.seq
(.reg [⟨(some 1), .box 24 (.t 0), none⟩,
⟨(some 2), .mv (.k (.d (.int .u64 0))), none⟩,
⟨(some 3), .mv (.k (.d (.int .i64 0))), none⟩] (fullB 3) false)
(.seq
(.seq
(.reg [⟨(some 4), .load (some 2) (.t 1), none⟩,
⟨(some 5), .call (.k (.fn (.func 13) [] [])) [(.t 4)], none⟩,
⟨(some 6), .not (.t 5), none⟩] (fullB 3) false)
(.cond (.t 6)
 (.seq
 (.reg [⟨(some 2), .mv (.k (.d (.int .u64 0))), none⟩,
⟨(some 3), .mv (.k (.d (.int .i64 2))), none⟩] (fullB 2) false)
 .ret)
 .skip))
(.seq
(.reg [⟨(some 7), .fld 1 (.t 1), none⟩,
⟨(some 8), .load none (.t 7), none⟩,
⟨(some 9), .conv .u64 (.t 8), none⟩,
⟨(some 10), .bin .mul (.k (.d (.int .u64 8))) (.t 9), none⟩,
⟨(some 11), .fld 0 (.t 1), none⟩,
⟨(some 12), .load none (.t 11), none⟩,
⟨(some 13), .conv .u64 (.t 12), none⟩,
⟨(some 14), .bin .add (.t 10) (.t 13), none⟩,
⟨(some 2), .mv (.t 14), none⟩,
⟨(some 3), .mv (.k (.d (.int .i64 0))), none⟩] (fullB 10) false)
.ret)))
def rv : List RV := [.tmp 2, .tmp 3]
/-! live ref03_Key: [0, 1, 2, 3, 6] -/
theorem c : cK Try.prog Try.f9.ntmps (Try.f9.body.getD .ret) = some s := by kernel_rfl
theorem b : Try.f9.body = some (Try.f9.body.getD .ret) := by kernel_rfl
theorem r : cRV Try.prog Try.f9.results.toList = some rv := by kernel_rfl
theorem ca : Callable Try.prog 9 = true := by kernel_rfl
theorem enter {args : List SV} {F : Hp} {k nk : Nat} {Q : SV → Hp → Prop} (hargs : SV.oks (fun n => decide (n < k)) args = true) (hF : F.ok (fun n => decide (n < k)) = true) (hN : args.length ≤ 15)
    (h : SW Try.prog 15 k s ⟨argE 0 args, F, k⟩ fun e st' => match e with | .normal => Fin k nk rv Q st' | .ret => Fin k nk rv Q st' | _ => False) : SB Try.prog 9 args F k nk Q :=
  SB.of_body Try.func9 b c r ca hargs hF hN h
end ref03_Key
/-! ### tranter.dot.Of -/
namespace dot_Of
abbrev f : Nat := 10
def s : SCo := (.seq
(.reg [⟨(some 2), .alloc 24 [(.d (.int .u8 0)), (.d (.int .u32 0))], none⟩,
⟨(some 3), .mv (.k (.d (.int .i64 0))), none⟩] (fullB 2) false)
(.seq
(.reg [⟨(some 7), .mv (.t 0), none⟩,
⟨(some 4), .alloc 25 [(.d (.int .u64 0))], none⟩,
⟨none, .store 1 (.t 4) (.t 7), none⟩] (fullB 3) false)
(.seq
(.reg [⟨(some 8), .mkf (.func 28) [] [(.t 4)], none⟩,
⟨(some 5), .mv (.t 8), none⟩] (fullB 2) false)
(.seq
 (.reg [⟨(some 9), .mv (.t 5), none⟩,
⟨(some 10), .call (.t 9) [(.k (.d (.int .i64 3)))], none⟩,
⟨(some 11), .conv .u8 (.t 10), none⟩,
⟨(some 12), .mv (.t 5), none⟩,
⟨(some 13), .call (.t 12) [(.k (.d (.int .i64 32)))], none⟩,
⟨(some 14), .conv .u32 (.t 13), none⟩,
⟨(some 15), .bld [(.d (.int .u8 0)), (.d (.int .u32 0))] [(0, 1, (.t 11)), (1, 1, (.t 14))], none⟩,
⟨(some 6), .alloc 24 [(.d (.int .u8 0)), (.d (.int .u32 0))], none⟩,
⟨none, .store 2 (.t 6) (.t 15), none⟩] (fullB 9) false)
 (.seq
 (.seq
 (.reg [⟨(some 16), .load none (.t 4), none⟩,
⟨(some 17), .bin .gtr (.t 16) (.k (.d (.int .u64 0))), none⟩,
⟨(some 18), .mv (.t 17), none⟩,
⟨(some 19), .load (some 2) (.t 6), some (18, false)⟩,
⟨(some 20), .call (.k (.fn (.func 12) [] [])) [(.t 19)], some (18, false)⟩,
⟨(some 21), .not (.t 20), some (18, false)⟩,
⟨(some 22), .pick (.t 18) (.k (.d (.bool true))) (.t 21), none⟩] (fullB 7) false)
 (.cond (.t 22)
 (.seq
  (.reg [⟨(some 23), .bld [(.d (.int .u8 0)), (.d (.int .u32 0))] [], none⟩,
⟨none, .store 2 (.t 2) (.t 23), none⟩,
⟨(some 3), .mv (.k (.d (.int .i64 5))), none⟩] (fullB 3) false)
  .ret)
 .skip))
 (.seq
 (.reg [⟨(some 24), .load (some 2) (.t 6), none⟩,
⟨none, .store 2 (.t 2) (.t 24), none⟩,
⟨(some 3), .mv (.k (.d (.int .i64 0))), none⟩] (fullB 3) false)
 .ret))))))
def rv : List RV := [.cell 2 (some 2), .tmp 3]
/-! live dot_Of: [0, 2, 3, 4, 5, 6, 22] -/
theorem c : cK Try.prog Try.f10.ntmps (Try.f10.body.getD .ret) = some s := by kernel_rfl
theorem b : Try.f10.body = some (Try.f10.body.getD .ret) := by kernel_rfl
theorem r : cRV Try.prog Try.f10.results.toList = some rv := by kernel_rfl
theorem ca : Callable Try.prog 10 = true := by kernel_rfl
theorem enter {args : List SV} {F : Hp} {k nk : Nat} {Q : SV → Hp → Prop} (hargs : SV.oks (fun n => decide (n < k)) args = true) (hF : F.ok (fun n => decide (n < k)) = true) (hN : args.length ≤ 25)
    (h : SW Try.prog 25 k s ⟨argE 0 args, F, k⟩ fun e st' => match e with | .normal => Fin k nk rv Q st' | .ret => Fin k nk rv Q st' | _ => False) : SB Try.prog 10 args F k nk Q :=
  SB.of_body Try.func10 b c r ca hargs hF hN h
end dot_Of
/-! ### tranter.tranterref03.Of -/
namespace ref03_Of
abbrev f : Nat := 11
def s : SCo := (.seq
(.reg [⟨(some 2), .alloc 24 [(.d (.int .u8 0)), (.d (.int .u32 0))], none⟩,
⟨(some 3), .mv (.k (.d (.int .i64 0))), none⟩] (fullB 2) false)
(.seq
(.seq
(.reg [⟨(some 4), .mv (.t 0), none⟩,
⟨(some 5), .bin .quo (.t 4) (.k (.d (.int .u64 8))), none⟩,
⟨(some 6), .bin .lss (.t 5) (.k (.d (.int .u64 1))), none⟩,
⟨(some 7), .mv (.t 6), none⟩,
⟨(some 8), .mv (.t 0), some (7, false)⟩,
⟨(some 9), .bin .quo (.t 8) (.k (.d (.int .u64 8))), some (7, false)⟩,
⟨(some 10), .bin .gtr (.t 9) (.k (.d (.int .u64 4294967295))), some (7, false)⟩,
⟨(some 11), .pick (.t 7) (.k (.d (.bool true))) (.t 10), none⟩] (fullB 8) false)
(.cond (.t 11)
 (.seq
 (.reg [⟨(some 12), .bld [(.d (.int .u8 0)), (.d (.int .u32 0))] [], none⟩,
⟨none, .store 2 (.t 2) (.t 12), none⟩,
⟨(some 3), .mv (.k (.d (.int .i64 5))), none⟩] (fullB 3) false)
 .ret)
 .skip))
(.seq
(.reg [⟨(some 13), .mv (.t 0), none⟩,
⟨(some 14), .bin .rem (.t 13) (.k (.d (.int .u64 8))), none⟩,
⟨(some 15), .conv .u8 (.t 14), none⟩,
⟨(some 16), .mv (.t 0), none⟩,
⟨(some 17), .bin .quo (.t 16) (.k (.d (.int .u64 8))), none⟩,
⟨(some 18), .conv .u32 (.t 17), none⟩,
⟨(some 19), .bld [(.d (.int .u8 0)), (.d (.int .u32 0))] [(0, 1, (.t 15)), (1, 1, (.t 18))], none⟩,
⟨none, .store 2 (.t 2) (.t 19), none⟩,
⟨(some 3), .mv (.k (.d (.int .i64 0))), none⟩] (fullB 9) false)
.ret)))
def rv : List RV := [.cell 2 (some 2), .tmp 3]
/-! live ref03_Of: [0, 2, 3, 11] -/
theorem c : cK Try.prog Try.f11.ntmps (Try.f11.body.getD .ret) = some s := by kernel_rfl
theorem b : Try.f11.body = some (Try.f11.body.getD .ret) := by kernel_rfl
theorem r : cRV Try.prog Try.f11.results.toList = some rv := by kernel_rfl
theorem ca : Callable Try.prog 11 = true := by kernel_rfl
theorem enter {args : List SV} {F : Hp} {k nk : Nat} {Q : SV → Hp → Prop} (hargs : SV.oks (fun n => decide (n < k)) args = true) (hF : F.ok (fun n => decide (n < k)) = true) (hN : args.length ≤ 20)
    (h : SW Try.prog 20 k s ⟨argE 0 args, F, k⟩ fun e st' => match e with | .normal => Fin k nk rv Q st' | .ret => Fin k nk rv Q st' | _ => False) : SB Try.prog 11 args F k nk Q :=
  SB.of_body Try.func11 b c r ca hargs hF hN h
end ref03_Of
/-! ### tranter.dot.May -/
namespace dot_May
abbrev f : Nat := 12
def s : SCo := (.seq
(.reg [⟨(some 1), .box 24 (.t 0), none⟩,
⟨(some 2), .mv (.k (.d (.bool false))), none⟩] (fullB 2) false)
(.seq
(.reg [⟨(some 3), .fld 0 (.t 1), none⟩,
⟨(some 4), .load none (.t 3), none⟩,
⟨(some 5), .bin .lss (.t 4) (.k (.d (.int .u8 8))), none⟩,
⟨(some 6), .mv (.t 5), none⟩,
⟨(some 7), .fld 1 (.t 1), some (6, true)⟩,
⟨(some 8), .load none (.t 7), some (6, true)⟩,
⟨(some 9), .bin .gtr (.t 8) (.k (.d (.int .u32 0))), some (6, true)⟩,
⟨(some 10), .pick (.t 6) (.t 9) (.k (.d (.bool false))), none⟩,
⟨(some 2), .mv (.t 10), none⟩] (fullB 9) false)
.ret))
def rv : List RV := [.tmp 2]
/-! live dot_May: [0, 1, 2] -/
theorem c : cK Try.prog Try.f12.ntmps (Try.f12.body.getD .ret) = some s := by kernel_rfl
theorem b : Try.f12.body = some (Try.f12.body.getD .ret) := by kernel_rfl
theorem r : cRV Try.prog Try.f12.results.toList = some rv := by kernel_rfl
theorem ca : Callable Try.prog 12 = true := by kernel_rfl
theorem enter {args : List SV} {F : Hp} {k nk : Nat} {Q : SV → Hp → Prop} (hargs : SV.oks (fun n => decide (n < k)) args = true) (hF : F.ok (fun n => decide (n < k)) = true) (hN : args.length ≤ 11)
    (h : SW Try.prog 11 k s ⟨argE 0 args, F, k⟩ fun e st' => match e with | .normal => Fin k nk rv Q st' | .ret => Fin k nk rv Q st' | _ => False) : SB Try.prog 12 args F k nk Q :=
  SB.of_body Try.func12 b c r ca hargs hF hN h
end dot_May
/-! ### tranter.tranterref03.May -/
namespace ref03_May
abbrev f : Nat := 13
def s : SCo := (.seq
(.reg [⟨(some 1), .box 24 (.t 0), none⟩,
⟨(some 2), .mv (.k (.d (.bool false))), none⟩] (fullB 2) false)
(.seq
(.reg [⟨(some 3), .fld 0 (.t 1), none⟩,
⟨(some 4), .load none (.t 3), none⟩,
⟨(some 5), .bin .leq (.t 4) (.k (.d (.int .u8 7))), none⟩,
⟨(some 6), .mv (.t 5), none⟩,
⟨(some 7), .fld 1 (.t 1), some (6, true)⟩,
⟨(some 8), .load none (.t 7), some (6, true)⟩,
⟨(some 9), .bin .geq (.t 8) (.k (.d (.int .u32 1))), some (6, true)⟩,
⟨(some 10), .pick (.t 6) (.t 9) (.k (.d (.bool false))), none⟩,
⟨(some 2), .mv (.t 10), none⟩] (fullB 9) false)
.ret))
def rv : List RV := [.tmp 2]
/-! live ref03_May: [0, 1, 2] -/
theorem c : cK Try.prog Try.f13.ntmps (Try.f13.body.getD .ret) = some s := by kernel_rfl
theorem b : Try.f13.body = some (Try.f13.body.getD .ret) := by kernel_rfl
theorem r : cRV Try.prog Try.f13.results.toList = some rv := by kernel_rfl
theorem ca : Callable Try.prog 13 = true := by kernel_rfl
theorem enter {args : List SV} {F : Hp} {k nk : Nat} {Q : SV → Hp → Prop} (hargs : SV.oks (fun n => decide (n < k)) args = true) (hF : F.ok (fun n => decide (n < k)) = true) (hN : args.length ≤ 11)
    (h : SW Try.prog 11 k s ⟨argE 0 args, F, k⟩ fun e st' => match e with | .normal => Fin k nk rv Q st' | .ret => Fin k nk rv Q st' | _ => False) : SB Try.prog 13 args F k nk Q :=
  SB.of_body Try.func13 b c r ca hargs hF hN h
end ref03_May
/-! ### tranter.dot.Compare -/
namespace dot_Compare
abbrev f : Nat := 14
def s : SCo := (.seq
(.reg [⟨(some 2), .box 24 (.t 0), none⟩,
⟨(some 3), .box 24 (.t 1), none⟩,
⟨(some 4), .mv (.k (.d (.int .i64 0))), none⟩] (fullB 3) false)
(.seq
(.reg [⟨(some 5), .fld 0 (.t 2), none⟩,
⟨(some 6), .load none (.t 5), none⟩,
⟨(some 7), .fld 0 (.t 3), none⟩,
⟨(some 8), .load none (.t 7), none⟩,
⟨(some 9), .call (.k (.fn (.func 30) [] [])) [(.t 6), (.t 8)], none⟩,
⟨(some 10), .fld 1 (.t 2), none⟩,
⟨(some 11), .load none (.t 10), none⟩,
⟨(some 12), .fld 1 (.t 3), none⟩,
⟨(some 13), .load none (.t 12), none⟩,
⟨(some 14), .call (.k (.fn (.func 31) [] [])) [(.t 11), (.t 13)], none⟩,
⟨(some 15), .bsl 3 1 2 [(.d (.int .i64 0)), (.d (.int .i64 0))] [(0, 1, (.t 9)), (1, 1, (.t 14))], none⟩,
⟨(some 16), .call (.k (.fn (.func 29) [] [])) [(.t 15)], none⟩,
⟨(some 4), .mv (.t 16), none⟩] [0,
1,
0,
4,
15,
0,
32,
0,
128,
511,
1023,
2047,
4095] true)
.ret))
def rv : List RV := [.tmp 4]
/-! live dot_Compare: [0, 1, 2, 3, 4] -/
theorem c : cK Try.prog Try.f14.ntmps (Try.f14.body.getD .ret) = some s := by kernel_rfl
theorem b : Try.f14.body = some (Try.f14.body.getD .ret) := by kernel_rfl
theorem r : cRV Try.prog Try.f14.results.toList = some rv := by kernel_rfl
theorem ca : Callable Try.prog 14 = true := by kernel_rfl
theorem enter {args : List SV} {F : Hp} {k nk : Nat} {Q : SV → Hp → Prop} (hargs : SV.oks (fun n => decide (n < k)) args = true) (hF : F.ok (fun n => decide (n < k)) = true) (hN : args.length ≤ 17)
    (h : SW Try.prog 17 k s ⟨argE 0 args, F, k⟩ fun e st' => match e with | .normal => Fin k nk rv Q st' | .ret => Fin k nk rv Q st' | _ => False) : SB Try.prog 14 args F k nk Q :=
  SB.of_body Try.func14 b c r ca hargs hF hN h
end dot_Compare
/-! ### tranter.tranterref03.Compare -/
namespace ref03_Compare
abbrev f : Nat := 15
def s : SCo := (.seq
(.reg [⟨(some 2), .box 24 (.t 0), none⟩,
⟨(some 3), .box 24 (.t 1), none⟩,
⟨(some 4), .mv (.k (.d (.int .i64 0))), none⟩] (fullB 3) false)
(.seq
(.reg (⟨(some 7), .fld 0 (.t 2), none⟩ ::
⟨(some 8), .load none (.t 7), none⟩ ::
⟨(some 9), .conv .i64 (.t 8), none⟩ ::
⟨(some 10), .bin .mul (.t 9) (.k (.d (.int .i64 8589934592))), none⟩ ::
⟨(some 11), .fld 1 (.t 2), none⟩ ::
⟨(some 12), .load none (.t 11), none⟩ ::
⟨(some 13), .conv .i64 (.t 12), none⟩ ::
⟨(some 14), .bin .add (.t 10) (.t 13), none⟩ ::
⟨(some 15), .fld 0 (.t 3), none⟩ ::
⟨(some 16), .load none (.t 15), none⟩ ::
⟨(some 17), .conv .i64 (.t 16), none⟩ ::
⟨(some 18), .bin .mul (.t 17) (.k (.d (.int .i64 8589934592))), none⟩ ::
⟨(some 19), .fld 1 (.t 3), none⟩ ::
⟨(some 20), .load none (.t 19), none⟩ ::
⟨(some 21), .conv .i64 (.t 20), none⟩ ::
⟨(some 22), .bin .add (.t 18) (.t 21), none⟩ ::
⟨(some 5), .mv (.t 14), none⟩ ::
⟨(some 6), .mv (.t 22), none⟩ :: []) (0 ::
1 ::
3 ::
7 ::
0 ::
16 ::
48 ::
127 ::
0 ::
256 ::
768 ::
1792 ::
0 ::
4096 ::
12288 ::
32512 ::
255 ::
131071 :: []) true)
(.seq
(.seq
 (.reg [⟨(some 23), .mv (.t 5), none⟩,
⟨(some 24), .mv (.t 6), none⟩,
⟨(some 25), .bin .lss (.t 23) (.t 24), none⟩] (fullB 3) false)
 (.cond (.t 25)
 (.seq
 (.reg [⟨(some 4), .mv (.k (.d (.int .i64 (-1)))), none⟩] (fullB 1) false)
 .ret)
 .skip))
(.seq
 (.seq
 (.reg [⟨(some 26), .mv (.t 5), none⟩,
⟨(some 27), .mv (.t 6), none⟩,
⟨(some 28), .bin .gtr (.t 26) (.t 27), none⟩] (fullB 3) false)
 (.cond (.t 28)
 (.seq
 (.reg [⟨(some 4), .mv (.k (.d (.int .i64 1))), none⟩] (fullB 1) false)
 .ret)
 .skip))
 (.seq
 (.reg [⟨(some 4), .mv (.k (.d (.int .i64 0))), none⟩] (fullB 1) false)
 .ret)))))
def rv : List RV := [.tmp 4]
/-! live ref03_Compare: [0, 1, 2, 3, 4, 5, 6, 25, 28] -/
theorem c : cK Try.prog Try.f15.ntmps (Try.f15.body.getD .ret) = some s := by kernel_rfl
theorem b : Try.f15.body = some (Try.f15.body.getD .ret) := by kernel_rfl
theorem r : cRV Try.prog Try.f15.results.toList = some rv := by kernel_rfl
theorem ca : Callable Try.prog 15 = true := by kernel_rfl
theorem enter {args : List SV} {F : Hp} {k nk : Nat} {Q : SV → Hp → Prop} (hargs : SV.oks (fun n => decide (n < k)) args = true) (hF : F.ok (fun n => decide (n < k)) = true) (hN : args.length ≤ 29)
    (h : SW Try.prog 29 k s ⟨argE 0 args, F, k⟩ fun e st' => match e with | .normal => Fin k nk rv Q st' | .ret => Fin k nk rv Q st' | _ => False) : SB Try.prog 15 args F k nk Q :=
  SB.of_body Try.func15 b c r ca hargs hF hN h
end ref03_Compare
/-! ### tranter.tranterlaw03.head -/
namespace law03_head
abbrev f : Nat := 16
def s : SCo := (.seq
(.reg [⟨(some 0), .mv (.k (.d (.bool false))), none⟩] (fullB 1) false)
(.seq
(.reg [⟨(some 14), .call (.k (.fn (.func 32) [] [])) [(.k (.d (.int .u8 3))), (.k (.d (.int .u32 5)))], none⟩,
⟨(some 15), .call (.k (.fn (.func 8) [] [])) [(.t 14)], none⟩,
⟨(some 13), .mv (.t 15), none⟩,
⟨(some 16), .ext 0 (.t 13), none⟩,
⟨(some 17), .ext 1 (.t 13), none⟩,
⟨(some 1), .mv (.t 16), none⟩,
⟨(some 2), .mv (.t 17), none⟩] (fullB 7) false)
(.seq
(.reg [⟨(some 19), .call (.k (.fn (.func 10) [] [])) [(.k (.d (.int .u64 43)))], none⟩,
⟨(some 18), .mv (.t 19), none⟩,
⟨(some 20), .ext 0 (.t 18), none⟩,
⟨(some 21), .ext 1 (.t 18), none⟩,
⟨(some 3), .alloc 24 [(.d (.int .u8 0)), (.d (.int .u32 0))], none⟩,
⟨none, .store 2 (.t 3) (.t 20), none⟩,
⟨(some 4), .mv (.t 21), none⟩] (fullB 7) false)
(.seq
 (.reg [⟨(some 23), .call (.k (.fn (.func 10) [] [])) [(.k (.d (.int .u64 7)))], none⟩,
⟨(some 22), .mv (.t 23), none⟩,
⟨(some 24), .ext 0 (.t 22), none⟩,
⟨(some 25), .ext 1 (.t 22), none⟩,
⟨(some 5), .alloc 24 [(.d (.int .u8 0)), (.d (.int .u32 0))], none⟩,
⟨none, .store 2 (.t 5) (.t 24), none⟩,
⟨(some 6), .mv (.t 25), none⟩] (fullB 7) false)
 (.seq
 (.reg [⟨(some 27), .call (.k (.fn (.func 32) [] [])) [(.k (.d (.int .u8 8))), (.k (.d (.int .u32 1)))], none⟩,
⟨(some 28), .call (.k (.fn (.func 8) [] [])) [(.t 27)], none⟩,
⟨(some 26), .mv (.t 28), none⟩,
⟨(some 29), .ext 0 (.t 26), none⟩,
⟨(some 30), .ext 1 (.t 26), none⟩,
⟨(some 7), .mv (.t 29), none⟩,
⟨(some 8), .mv (.t 30), none⟩] (fullB 7) false)
 (.seq
 (.reg [⟨(some 32), .call (.k (.fn (.func 32) [] [])) [(.k (.d (.int .u8 1))), (.k (.d (.int .u32 0)))], none⟩,
⟨(some 33), .call (.k (.fn (.func 8) [] [])) [(.t 32)], none⟩,
⟨(some 31), .mv (.t 33), none⟩,
⟨(some 34), .ext 0 (.t 31), none⟩,
⟨(some 35), .ext 1 (.t 31), none⟩,
⟨(some 9), .mv (.t 34), none⟩,
⟨(some 10), .mv (.t 35), none⟩] (fullB 7) false)
 (.seq
 (.reg [⟨(some 37), .call (.k (.fn (.func 17) [] [])) [(.k (.d (.int .u8 1))), (.k (.d (.int .u32 3))), (.k (.d (.int .u32 5)))], none⟩,
⟨(some 36), .mv (.t 37), none⟩,
⟨(some 38), .ext 0 (.t 36), none⟩,
⟨(some 39), .ext 1 (.t 36), none⟩,
⟨(some 11), .mv (.t 38), none⟩,
⟨(some 12), .mv (.t 39), none⟩] (fullB 6) false)
 (.seq
  (.reg (⟨(some 40), .mv (.t 1), none⟩ ::
⟨(some 41), .bin .eql (.t 40) (.k (.d (.int .u64 43))), none⟩ ::
⟨(some 42), .mv (.t 41), none⟩ ::
⟨(some 43), .mv (.t 2), some (42, true)⟩ ::
⟨(some 44), .bin .eql (.t 43) (.k (.d (.int .i64 0))), some (42, true)⟩ ::
⟨(some 45), .pick (.t 42) (.t 44) (.k (.d (.bool false))), none⟩ ::
⟨(some 46), .mv (.t 45), none⟩ ::
⟨(some 47), .load (some 2) (.t 3), some (46, true)⟩ ::
⟨(some 48), .call (.k (.fn (.func 32) [] [])) [(.k (.d (.int .u8 3))), (.k (.d (.int .u32 5)))], some (46, true)⟩ ::
⟨(some 49), .eqv false [true, true] (.t 47) (.t 48), some (46, true)⟩ ::
⟨(some 50), .pick (.t 46) (.t 49) (.k (.d (.bool false))), none⟩ ::
⟨(some 51), .mv (.t 50), none⟩ ::
⟨(some 52), .mv (.t 4), some (51, true)⟩ ::
⟨(some 53), .bin .eql (.t 52) (.k (.d (.int .i64 0))), some (51, true)⟩ ::
⟨(some 54), .pick (.t 51) (.t 53) (.k (.d (.bool false))), none⟩ ::
⟨(some 55), .mv (.t 54), none⟩ ::
⟨(some 56), .mv (.t 6), some (55, true)⟩ ::
⟨(some 57), .bin .eql (.t 56) (.k (.d (.int .i64 5))), some (55, true)⟩ ::
⟨(some 58), .pick (.t 55) (.t 57) (.k (.d (.bool false))), none⟩ ::
⟨(some 59), .mv (.t 58), none⟩ ::
⟨(some 60), .mv (.t 8), some (59, true)⟩ ::
⟨(some 61), .bin .eql (.t 60) (.k (.d (.int .i64 2))), some (59, true)⟩ ::
⟨(some 62), .pick (.t 59) (.t 61) (.k (.d (.bool false))), none⟩ ::
⟨(some 63), .mv (.t 62), none⟩ ::
⟨(some 64), .mv (.t 10), some (63, true)⟩ ::
⟨(some 65), .bin .eql (.t 64) (.k (.d (.int .i64 2))), some (63, true)⟩ ::
⟨(some 66), .pick (.t 63) (.t 65) (.k (.d (.bool false))), none⟩ ::
⟨(some 67), .mv (.t 66), none⟩ ::
⟨(some 68), .call (.k (.fn (.func 32) [] [])) [(.k (.d (.int .u8 1))), (.k (.d (.int .u32 9)))], some (67, true)⟩ ::
⟨(some 69), .call (.k (.fn (.func 32) [] [])) [(.k (.d (.int .u8 2))), (.k (.d (.int .u32 1)))], some (67, true)⟩ ::
⟨(some 70), .call (.k (.fn (.func 14) [] [])) [(.t 68), (.t 69)], some (67, true)⟩ ::
⟨(some 71), .bin .eql (.t 70) (.k (.d (.int .i64 (-1)))), some (67, true)⟩ ::
⟨(some 72), .pick (.t 67) (.t 71) (.k (.d (.bool false))), none⟩ ::
⟨(some 73), .mv (.t 72), none⟩ ::
⟨(some 74), .call (.k (.fn (.func 32) [] [])) [(.k (.d (.int .u8 2))), (.k (.d (.int .u32 1)))], some (73, true)⟩ ::
⟨(some 75), .call (.k (.fn (.func 32) [] [])) [(.k (.d (.int .u8 2))), (.k (.d (.int .u32 1)))], some (73, true)⟩ ::
⟨(some 76), .call (.k (.fn (.func 14) [] [])) [(.t 74), (.t 75)], some (73, true)⟩ ::
⟨(some 77), .bin .eql (.t 76) (.k (.d (.int .i64 0))), some (73, true)⟩ ::
⟨(some 78), .pick (.t 73) (.t 77) (.k (.d (.bool false))), none⟩ ::
⟨(some 79), .mv (.t 78), none⟩ ::
⟨(some 80), .mv (.t 11), some (79, true)⟩ ::
⟨(some 81), .call (.k (.fn (.func 32) [] [])) [(.k (.d (.int .u8 1))), (.k (.d (.int .u32 3)))], some (79, true)⟩ ::
⟨(some 82), .call (.k (.fn (.func 32) [] [])) [(.k (.d (.int .u8 1))), (.k (.d (.int .u32 4)))], some (79, true)⟩ ::
⟨(some 83), .call (.k (.fn (.func 32) [] [])) [(.k (.d (.int .u8 1))), (.k (.d (.int .u32 5)))], some (79, true)⟩ ::
⟨(some 84), .bsl 24 2 3 [(.d (.int .u8 0)), (.d (.int .u32 0)), (.d (.int .u8 0)), (.d (.int .u32 0)), (.d (.int .u8 0)), (.d (.int .u32 0))] [(0, 2, (.t 81)), (2, 2, (.t 82)), (4, 2, (.t 83))], some (79, true)⟩ ::
⟨(some 85), .call (.k (.fn (.func 19) [] [])) [(.t 80), (.t 84)], some (79, true)⟩ ::
⟨(some 86), .pick (.t 79) (.t 85) (.k (.d (.bool false))), none⟩ ::
⟨(some 87), .mv (.t 86), none⟩ ::
⟨(some 88), .mv (.t 12), some (87, true)⟩ ::
⟨(some 89), .bin .eql (.t 88) (.k (.d (.int .i64 0))), some (87, true)⟩ ::
⟨(some 90), .pick (.t 87) (.t 89) (.k (.d (.bool false))), none⟩ ::
⟨(some 91), .mv (.t 90), none⟩ ::
⟨(some 92), .call (.k (.fn (.func 32) [] [])) [(.k (.d (.int .u8 2))), (.k (.d (.int .u32 1)))], some (91, true)⟩ ::
⟨(some 93), .call (.k (.fn (.func 32) [] [])) [(.k (.d (.int .u8 1))), (.k (.d (.int .u32 2)))], some (91, true)⟩ ::
⟨(some 94), .call (.k (.fn (.func 32) [] [])) [(.k (.d (.int .u8 2))), (.k (.d (.int .u32 1)))], some (91, true)⟩ ::
⟨(some 95), .bsl 24 2 3 [(.d (.int .u8 0)), (.d (.int .u32 0)), (.d (.int .u8 0)), (.d (.int .u32 0)), (.d (.int .u8 0)), (.d (.int .u32 0))] [(0, 2, (.t 92)), (2, 2, (.t 93)), (4, 2, (.t 94))], some (91, true)⟩ ::
⟨(some 96), .call (.k (.fn (.func 20) [] [])) [(.t 95)], some (91, true)⟩ ::
⟨(some 97), .call (.k (.fn (.func 32) [] [])) [(.k (.d (.int .u8 1))), (.k (.d (.int .u32 2)))], some (91, true)⟩ ::
⟨(some 98), .call (.k (.fn (.func 32) [] [])) [(.k (.d (.int .u8 2))), (.k (.d (.int .u32 1)))], some (91, true)⟩ ::
⟨(some 99), .bsl 24 2 2 [(.d (.int .u8 0)), (.d (.int .u32 0)), (.d (.int .u8 0)), (.d (.int .u32 0))] [(0, 2, (.t 97)), (2, 2, (.t 98))], some (91, true)⟩ ::
⟨(some 100), .call (.k (.fn (.func 19) [] [])) [(.t 96), (.t 99)], some (91, true)⟩ ::
⟨(some 101), .pick (.t 91) (.t 100) (.k (.d (.bool false))), none⟩ ::
⟨(some 102), .mv (.t 101), none⟩ ::
⟨(some 103), .call (.k (.fn (.func 32) [] [])) [(.k (.d (.int .u8 1))), (.k (.d (.int .u32 1)))], some (102, true)⟩ ::
⟨(some 104), .call (.k (.fn (.func 32) [] [])) [(.k (.d (.int .u8 1))), (.k (.d (.int .u32 2)))], some (102, true)⟩ ::
⟨(some 105), .bsl 24 2 2 [(.d (.int .u8 0)), (.d (.int .u32 0)), (.d (.int .u8 0)), (.d (.int .u32 0))] [(0, 2, (.t 103)), (2, 2, (.t 104))], some (102, true)⟩ ::
⟨(some 106), .call (.k (.fn (.func 32) [] [])) [(.k (.d (.int .u8 1))), (.k (.d (.int .u32 2)))], some (102, true)⟩ ::
⟨(some 107), .bsl 24 2 1 [(.d (.int .u8 0)), (.d (.int .u32 0))] [(0, 2, (.t 106))], some (102, true)⟩ ::
⟨(some 108), .call (.k (.fn (.func 26) [] [])) [(.t 105), (.t 107)], some (102, true)⟩ ::
⟨(some 109), .call (.k (.fn (.func 32) [] [])) [(.k (.d (.int .u8 1))), (.k (.d (.int .u32 1)))], some (102, true)⟩ ::
⟨(some 110), .bsl 24 2 1 [(.d (.int .u8 0)), (.d (.int .u32 0))] [(0, 2, (.t 109))], some (102, true)⟩ ::
⟨(some 111), .call (.k (.fn (.func 19) [] [])) [(.t 108), (.t 110)], some (102, true)⟩ ::
⟨(some 112), .pick (.t 102) (.t 111) (.k (.d (.bool false))), none⟩ ::
⟨(some 0), .mv (.t 112), none⟩ :: []) (0 ::
1 ::
3 ::
7 ::
15 ::
31 ::
63 ::
127 ::
127 ::
511 ::
1023 ::
2047 ::
4095 ::
8191 ::
16383 ::
32767 ::
65535 ::
131071 ::
262143 ::
524287 ::
1048575 ::
2097151 ::
4194303 ::
8388607 ::
16777215 ::
33554431 ::
67108863 ::
134217727 ::
268435455 ::
536870911 ::
1073741823 ::
2147483647 ::
4294967295 ::
8589934591 ::
17179869183 ::
34359738367 ::
68719476735 ::
137438953471 ::
274877906943 ::
549755813887 ::
1099511627775 ::
1099511627775 ::
3298534883327 ::
7696581394431 ::
16492674416639 ::
35184372088831 ::
70368744177663 ::
140737488355327 ::
281474976710655 ::
562949953421311 ::
1125899906842623 ::
2251799813685247 ::
4503599627370495 ::
9007199254740991 ::
18014398509481983 ::
36028797018963967 ::
72057594037927935 ::
144115188075855871 ::
288230376151711743 ::
576460752303423487 ::
1152921504606846975 ::
2305843009213693951 ::
4611686018427387903 ::
9223372036854775807 ::
18446744073709551615 ::
36893488147419103231 ::
36893488147419103231 ::
110680464442257309695 ::
295147905179352825855 ::
590295810358705651711 ::
1180591620717411303423 ::
2361183241434822606847 ::
4722366482869645213695 ::
9444732965739290427391 :: []) true)
  .ret))))))))
def rv : List RV := [.tmp 0]
/-! live law03_head: [0, 1, 2, 3, 4, 6, 8, 10, 11, 12] -/
theorem c : cK Try.prog Try.f16.ntmps (Try.f16.body.getD .ret) = some s := by kernel_rfl
theorem b : Try.f16.body = some (Try.f16.body.getD .ret) := by kernel_rfl
theorem r : cRV Try.prog Try.f16.results.toList = some rv := by kernel_rfl
theorem ca : Callable Try.prog 16 = true := by kernel_rfl
theorem enter {args : List SV} {F : Hp} {k nk : Nat} {Q : SV → Hp → Prop} (hargs : SV.oks (fun n => decide (n < k)) args = true) (hF : F.ok (fun n => decide (n < k)) = true) (hN : args.length ≤ 113)
    (h : SW Try.prog 113 k s ⟨argE 0 args, F, k⟩ fun e st' => match e with | .normal => Fin k nk rv Q st' | .ret => Fin k nk rv Q st' | _ => False) : SB Try.prog 16 args F k nk Q :=
  SB.of_body Try.func16 b c r ca hargs hF hN h
end law03_head
/-! ### tranter.dot.Range -/
namespace dot_Range
abbrev f : Nat := 17
def s : SCo := (.seq
(.reg [⟨(some 6), .mv (.k (.d .nils)), none⟩,
⟨(some 7), .mv (.k (.d (.int .i64 0))), none⟩] (fullB 2) false)
(.seq
(.block 0
(.seq
 (.reg [⟨(some 11), .mv (.t 0), none⟩,
⟨(some 12), .mv (.t 1), none⟩,
⟨(some 13), .bld [(.d (.int .u8 0)), (.d (.int .u32 0))] [(0, 1, (.t 11)), (1, 1, (.t 12))], none⟩,
⟨(some 14), .call (.k (.fn (.func 12) [] [])) [(.t 13)], none⟩,
⟨(some 15), .not (.t 14), none⟩,
⟨(some 10), .mv (.t 15), none⟩] (fullB 6) false)
 (.cond (.t 10)
 (.seq
 (.reg [⟨(some 6), .mv (.k (.d .nils)), none⟩,
⟨(some 7), .mv (.k (.d (.int .i64 2))), none⟩] (fullB 2) false)
 .ret)
 (.seq
 (.reg [⟨(some 17), .mv (.t 2), none⟩,
⟨(some 18), .mv (.t 1), none⟩,
⟨(some 19), .bin .lss (.t 17) (.t 18), none⟩,
⟨(some 16), .mv (.t 19), none⟩] (fullB 4) false)
 (.cond (.t 16)
 (.seq
  (.reg [⟨(some 6), .mv (.k (.d .nils)), none⟩,
⟨(some 7), .mv (.k (.d (.int .i64 0))), none⟩] (fullB 2) false)
  .ret)
 (.seq
  (.reg [⟨(some 21), .mv (.t 2), none⟩,
⟨(some 22), .mv (.t 1), none⟩,
⟨(some 23), .bin .sub (.t 21) (.t 22), none⟩,
⟨(some 24), .bin .geq (.t 23) (.k (.d (.int .u32 65536))), none⟩,
⟨(some 20), .mv (.t 24), none⟩] (fullB 5) false)
  (.cond (.t 20)
  (.seq
  (.reg [⟨(some 6), .mv (.k (.d .nils)), none⟩,
⟨(some 7), .mv (.k (.d (.int .i64 3))), none⟩] (fullB 2) false)
  .ret)
  .skip)))))))
(.seq
(.reg [⟨(some 25), .mv (.t 2), none⟩,
⟨(some 26), .mv (.t 1), none⟩,
⟨(some 27), .bin .sub (.t 25) (.t 26), none⟩,
⟨(some 28), .bin .add (.t 27) (.k (.d (.int .u32 1))), none⟩,
⟨(some 29), .mks 24 2 8 [(.d (.int .u8 0)), (.d (.int .u32 0))] (.k (.d (.int .i64 0))) (.t 28), none⟩,
⟨(some 8), .mv (.t 29), none⟩] (fullB 6) false)
(.seq
 (.seq
 (.reg [⟨(some 30), .mv (.t 2), none⟩,
⟨(some 31), .mv (.t 1), none⟩,
⟨(some 32), .bin .sub (.t 30) (.t 31), none⟩,
⟨(some 33), .bin .add (.t 32) (.k (.d (.int .u32 1))), none⟩,
⟨(some 34), .mv (.k (.d (.int .u32 0))), none⟩] (fullB 5) false)
 (.block 1
 (.loop
 (.seq
  (.reg [⟨(some 35), .bin .lss (.t 34) (.t 33), none⟩] (fullB 1) false)
  (.seq
  (.cond (.t 35)
  .skip
  (.exit 1))
  (.seq
  (.block 2
  (.seq
   (.reg [⟨(some 36), .mv (.t 34), none⟩,
⟨(some 9), .mv (.t 36), none⟩] (fullB 2) false)
   (.reg [⟨(some 37), .mv (.t 8), none⟩,
⟨(some 38), .mv (.t 0), none⟩,
⟨(some 39), .mv (.t 1), none⟩,
⟨(some 40), .mv (.t 9), none⟩,
⟨(some 41), .bin .add (.t 39) (.t 40), none⟩,
⟨(some 42), .bld [(.d (.int .u8 0)), (.d (.int .u32 0))] [(0, 1, (.t 38)), (1, 1, (.t 41))], none⟩,
⟨(some 43), .bsl 24 2 1 [(.d (.int .u8 0)), (.d (.int .u32 0))] [(0, 2, (.t 42))], none⟩,
⟨(some 44), .app 24 2 8 (.t 37) (.t 43), none⟩,
⟨(some 8), .mv (.t 44), none⟩] (fullB 9) false)))
  (.reg [⟨(some 45), .bin .add (.t 34) (.k (.d (.int .u32 1))), none⟩,
⟨(some 34), .mv (.t 45), none⟩] (fullB 2) false)))))))
 (.seq
 (.reg [⟨(some 46), .mv (.t 8), none⟩,
⟨(some 6), .mv (.t 46), none⟩,
⟨(some 7), .mv (.k (.d (.int .i64 0))), none⟩] (fullB 3) false)
 .ret)))))
def rv : List RV := [.tmp 6, .tmp 7]
/-! live dot_Range: [0, 1, 2, 6, 7, 8, 9, 10, 16, 20, 33, 34, 35] -/
theorem c : cK Try.prog Try.f17.ntmps (Try.f17.body.getD .ret) = some s := by kernel_rfl
theorem b : Try.f17.body = some (Try.f17.body.getD .ret) := by kernel_rfl
theorem r : cRV Try.prog Try.f17.results.toList = some rv := by kernel_rfl
theorem ca : Callable Try.prog 17 = true := by kernel_rfl
theorem enter {args : List SV} {F : Hp} {k nk : Nat} {Q : SV → Hp → Prop} (hargs : SV.oks (fun n => decide (n < k)) args = true) (hF : F.ok (fun n => decide (n < k)) = true) (hN : args.length ≤ 47)
    (h : SW Try.prog 47 k s ⟨argE 0 args, F, k⟩ fun e st' => match e with | .normal => Fin k nk rv Q st' | .ret => Fin k nk rv Q st' | _ => False) : SB Try.prog 17 args F k nk Q :=
  SB.of_body Try.func17 b c r ca hargs hF hN h
end dot_Range
/-! ### tranter.tranterref03.Range -/
namespace ref03_Range
abbrev f : Nat := 18
def s : SCo := (.seq
(.reg [⟨(some 6), .mv (.k (.d .nils)), none⟩,
⟨(some 7), .mv (.k (.d (.int .i64 0))), none⟩] (fullB 2) false)
(.seq
(.seq
(.reg [⟨(some 10), .mv (.t 0), none⟩,
⟨(some 11), .bin .gtr (.t 10) (.k (.d (.int .u8 7))), none⟩,
⟨(some 12), .mv (.t 11), none⟩,
⟨(some 13), .mv (.t 1), some (12, false)⟩,
⟨(some 14), .bin .eql (.t 13) (.k (.d (.int .u32 0))), some (12, false)⟩,
⟨(some 15), .pick (.t 12) (.k (.d (.bool true))) (.t 14), none⟩] (fullB 6) false)
(.cond (.t 15)
 (.seq
 (.reg [⟨(some 6), .mv (.k (.d .nils)), none⟩,
⟨(some 7), .mv (.k (.d (.int .i64 2))), none⟩] (fullB 2) false)
 .ret)
 .skip))
(.seq
(.seq
 (.reg [⟨(some 16), .mv (.t 2), none⟩,
⟨(some 17), .conv .i64 (.t 16), none⟩,
⟨(some 18), .mv (.t 1), none⟩,
⟨(some 19), .conv .i64 (.t 18), none⟩,
⟨(some 20), .bin .sub (.t 17) (.t 19), none⟩,
⟨(some 21), .bin .add (.t 20) (.k (.d (.int .i64 1))), none⟩,
⟨(some 22), .bin .gtr (.t 21) (.k (.d (.int .i64 65536))), none⟩] (fullB 7) false)
 (.cond (.t 22)
 (.seq
 (.reg [⟨(some 6), .mv (.k (.d .nils)), none⟩,
⟨(some 7), .mv (.k (.d (.int .i64 3))), none⟩] (fullB 2) false)
 .ret)
 .skip))
(.seq
 (.reg [⟨(some 8), .mv (.k (.d .nils)), none⟩] (fullB 1) false)
 (.seq
 (.seq
 (.reg [⟨(some 23), .mv (.t 1), none⟩,
⟨(some 24), .conv .i64 (.t 23), none⟩,
⟨(some 9), .mv (.t 24), none⟩] (fullB 3) false)
 (.block 0
 (.loop
  (.seq
  (.seq
  (.reg [⟨(some 25), .mv (.t 9), none⟩,
⟨(some 26), .mv (.t 2), none⟩,
⟨(some 27), .conv .i64 (.t 26), none⟩,
⟨(some 28), .bin .leq (.t 25) (.t 27), none⟩] (fullB 4) false)
  (.cond (.t 28)
  .skip
  (.exit 0)))
  (.seq
  (.block 1
  (.reg [⟨(some 31), .mv (.t 8), none⟩,
⟨(some 32), .mv (.t 0), none⟩,
⟨(some 33), .mv (.t 9), none⟩,
⟨(some 34), .conv .u32 (.t 33), none⟩,
⟨(some 35), .bld [(.d (.int .u8 0)), (.d (.int .u32 0))] [(0, 1, (.t 32)), (1, 1, (.t 34))], none⟩,
⟨(some 36), .bsl 24 2 1 [(.d (.int .u8 0)), (.d (.int .u32 0))] [(0, 2, (.t 35))], none⟩,
⟨(some 37), .app 24 2 8 (.t 31) (.t 36), none⟩,
⟨(some 8), .mv (.t 37), none⟩] (fullB 8) false))
  (.reg [⟨(some 29), .mv (.t 9), none⟩,
⟨(some 30), .bin .add (.t 29) (.k (.d (.int .i64 1))), none⟩,
⟨(some 9), .mv (.t 30), none⟩] (fullB 3) false))))))
 (.seq
 (.reg [⟨(some 38), .mv (.t 8), none⟩,
⟨(some 6), .mv (.t 38), none⟩,
⟨(some 7), .mv (.k (.d (.int .i64 0))), none⟩] (fullB 3) false)
 .ret))))))
def rv : List RV := [.tmp 6, .tmp 7]
/-! live ref03_Range: [0, 1, 2, 6, 7, 8, 9, 15, 22, 28] -/
theorem c : cK Try.prog Try.f18.ntmps (Try.f18.body.getD .ret) = some s := by kernel_rfl
theorem b : Try.f18.body = some (Try.f18.body.getD .ret) := by kernel_rfl
theorem r : cRV Try.prog Try.f18.results.toList = some rv := by kernel_rfl
theorem ca : Callable Try.prog 18 = true := by kernel_rfl
theorem enter {args : List SV} {F : Hp} {k nk : Nat} {Q : SV → Hp → Prop} (hargs : SV.oks (fun n => decide (n < k)) args = true) (hF : F.ok (fun n => decide (n < k)) = true) (hN : args.length ≤ 39)
    (h : SW Try.prog 39 k s ⟨argE 0 args, F, k⟩ fun e st' => match e with | .normal => Fin k nk rv Q st' | .ret => Fin k nk rv Q st' | _ => False) : SB Try.prog 18 args F k nk Q :=
  SB.of_body Try.func18 b c r ca hargs hF hN h
end ref03_Range
/-! ### tranter.tranterref03.Same -/
namespace ref03_Same
abbrev f : Nat := 19
def s : SCo := (.seq
(.reg [⟨(some 4), .mv (.k (.d (.bool false))), none⟩] (fullB 1) false)
(.seq
(.seq
(.reg [⟨(some 6), .mv (.t 0), none⟩,
⟨(some 7), .len (.t 6), none⟩,
⟨(some 8), .mv (.t 1), none⟩,
⟨(some 9), .len (.t 8), none⟩,
⟨(some 10), .bin .neq (.t 7) (.t 9), none⟩] (fullB 5) false)
(.cond (.t 10)
 (.seq
 (.reg [⟨(some 4), .mv (.k (.d (.bool false))), none⟩] (fullB 1) false)
 .ret)
 .skip))
(.seq
(.seq
 (.reg [⟨(some 5), .mv (.k (.d (.int .i64 0))), none⟩] (fullB 1) false)
 (.block 0
 (.loop
 (.seq
 (.seq
  (.reg [⟨(some 11), .mv (.t 5), none⟩,
⟨(some 12), .mv (.t 0), none⟩,
⟨(some 13), .len (.t 12), none⟩,
⟨(some 14), .bin .lss (.t 11) (.t 13), none⟩] (fullB 4) false)
  (.cond (.t 14)
  .skip
  (.exit 0)))
 (.seq
  (.block 1
  (.seq
  (.reg [⟨(some 17), .mv (.t 0), none⟩,
⟨(some 18), .mv (.t 5), none⟩,
⟨(some 19), .idxS 2 (.t 17) (.t 18), none⟩,
⟨(some 20), .load (some 2) (.t 19), none⟩,
⟨(some 21), .mv (.t 1), none⟩,
⟨(some 22), .mv (.t 5), none⟩,
⟨(some 23), .idxS 2 (.t 21) (.t 22), none⟩,
⟨(some 24), .load (some 2) (.t 23), none⟩,
⟨(some 25), .eqv true [true, true] (.t 20) (.t 24), none⟩] [0,
0,
3,
7,
0,
0,
48,
112,
255] true)
  (.cond (.t 25)
  (.seq
   (.reg [⟨(some 4), .mv (.k (.d (.bool false))), none⟩] (fullB 1) false)
   .ret)
  .skip)))
  (.reg [⟨(some 15), .mv (.t 5), none⟩,
⟨(some 16), .bin .add (.t 15) (.k (.d (.int .i64 1))), none⟩,
⟨(some 5), .mv (.t 16), none⟩] (fullB 3) false))))))
(.seq
 (.reg [⟨(some 4), .mv (.k (.d (.bool true))), none⟩] (fullB 1) false)
 .ret))))
def rv : List RV := [.tmp 4]
/-! live ref03_Same: [0, 1, 4, 5, 10, 14, 25] -/
theorem c : cK Try.prog Try.f19.ntmps (Try.f19.body.getD .ret) = some s := by kernel_rfl
theorem b : Try.f19.body = some (Try.f19.body.getD .ret) := by kernel_rfl
theorem r : cRV Try.prog Try.f19.results.toList = some rv := by kernel_rfl
theorem ca : Callable Try.prog 19 = true := by kernel_rfl
theorem enter {args : List SV} {F : Hp} {k nk : Nat} {Q : SV → Hp → Prop} (hargs : SV.oks (fun n => decide (n < k)) args = true) (hF : F.ok (fun n => decide (n < k)) = true) (hN : args.length ≤ 26)
    (h : SW Try.prog 26 k s ⟨argE 0 args, F, k⟩ fun e st' => match e with | .normal => Fin k nk rv Q st' | .ret => Fin k nk rv Q st' | _ => False) : SB Try.prog 19 args F k nk Q :=
  SB.of_body Try.func19 b c r ca hargs hF hN h
end ref03_Same
/-! ### tranter.dot.Sort -/
namespace dot_Sort
abbrev f : Nat := 20
def s : SCo := (.seq
(.reg [⟨(some 2), .mv (.k (.d .nils)), none⟩] (fullB 1) false)
(.seq
(.reg [⟨(some 3), .mv (.t 0), none⟩,
⟨(some 4), .call (.k (.fn (.func 33) [] [])) [(.t 3)], none⟩,
⟨(some 5), .call (.k (.fn (.func 34) [] [])) [(.t 4)], none⟩,
⟨(some 2), .mv (.t 5), none⟩] (fullB 4) false)
.ret))
def rv : List RV := [.tmp 2]
/-! live dot_Sort: [0, 2] -/
theorem c : cK Try.prog Try.f20.ntmps (Try.f20.body.getD .ret) = some s := by kernel_rfl
theorem b : Try.f20.body = some (Try.f20.body.getD .ret) := by kernel_rfl
theorem r : cRV Try.prog Try.f20.results.toList = some rv := by kernel_rfl
theorem ca : Callable Try.prog 20 = true := by kernel_rfl
theorem enter {args : List SV} {F : Hp} {k nk : Nat} {Q : SV → Hp → Prop} (hargs : SV.oks (fun n => decide (n < k)) args = true) (hF : F.ok (fun n => decide (n < k)) = true) (hN : args.length ≤ 6)
    (h : SW Try.prog 6 k s ⟨argE 0 args, F, k⟩ fun e st' => match e with | .normal => Fin k nk rv Q st' | .ret => Fin k nk rv Q st' | _ => False) : SB Try.prog 20 args F k nk Q :=
  SB.of_body Try.func20 b c r ca hargs hF hN h
end dot_Sort
/-! ### tranter.tranterref03.Sort -/
namespace ref03_Sort
abbrev f : Nat := 21
def s : SCo := (.seq
(.reg [⟨(some 2), .mv (.k (.d .nils)), none⟩] (fullB 1) false)
(.seq
(.reg [⟨(some 3), .mv (.k (.d .nils)), none⟩] (fullB 1) false)
(.seq
(.seq
 (.reg [⟨(some 4), .mv (.k (.d (.int .i64 0))), none⟩] (fullB 1) false)
 (.block 0
 (.loop
 (.seq
 (.seq
  (.reg [⟨(some 5), .mv (.t 4), none⟩,
⟨(some 6), .mv (.t 0), none⟩,
⟨(some 7), .len (.t 6), none⟩,
⟨(some 8), .bin .lss (.t 5) (.t 7), none⟩] (fullB 4) false)
  (.cond (.t 8)
  .skip
  (.exit 0)))
 (.seq
  (.block 1
  (.reg [⟨(some 11), .mv (.t 3), none⟩,
⟨(some 12), .mv (.t 0), none⟩,
⟨(some 13), .mv (.t 4), none⟩,
⟨(some 14), .idxS 2 (.t 12) (.t 13), none⟩,
⟨(some 15), .load (some 2) (.t 14), none⟩,
⟨(some 16), .call (.k (.fn (.func 35) [] [])) [(.t 11), (.t 15)], none⟩,
⟨(some 3), .mv (.t 16), none⟩] (fullB 7) false))
  (.reg [⟨(some 9), .mv (.t 4), none⟩,
⟨(some 10), .bin .add (.t 9) (.k (.d (.int .i64 1))), none⟩,
⟨(some 4), .mv (.t 10), none⟩] (fullB 3) false))))))
(.seq
 (.reg [⟨(some 17), .mv (.t 3), none⟩,
⟨(some 2), .mv (.t 17), none⟩] (fullB 2) false)
 .ret))))
def rv : List RV := [.tmp 2]
/-! live ref03_Sort: [0, 2, 3, 4, 8] -/
theorem c : cK Try.prog Try.f21.ntmps (Try.f21.body.getD .ret) = some s := by kernel_rfl
theorem b : Try.f21.body = some (Try.f21.body.getD .ret) := by kernel_rfl
theorem r : cRV Try.prog Try.f21.results.toList = some rv := by kernel_rfl
theorem ca : Callable Try.prog 21 = true := by kernel_rfl
theorem enter {args : List SV} {F : Hp} {k nk : Nat} {Q : SV → Hp → Prop} (hargs : SV.oks (fun n => decide (n < k)) args = true) (hF : F.ok (fun n => decide (n < k)) = true) (hN : args.length ≤ 18)
    (h : SW Try.prog 18 k s ⟨argE 0 args, F, k⟩ fun e st' => match e with | .normal => Fin k nk rv Q st' | .ret => Fin k nk rv Q st' | _ => False) : SB Try.prog 21 args F k nk Q :=
  SB.of_body Try.func21 b c r ca hargs hF hN h
end ref03_Sort
/-! ### tranter.dot.Union -/
namespace dot_Union
abbrev f : Nat := 22
def s : SCo := (.seq
(.reg [⟨(some 4), .mv (.k (.d .nils)), none⟩] (fullB 1) false)
(.seq
(.reg [⟨(some 6), .mv (.t 0), none⟩,
⟨(some 7), .call (.k (.fn (.func 33) [] [])) [(.t 6)], none⟩,
⟨(some 5), .mv (.t 7), none⟩] (fullB 3) false)
(.seq
(.reg [⟨(some 8), .mv (.t 5), none⟩,
⟨(some 9), .mv (.t 1), none⟩,
⟨(some 10), .call (.k (.fn (.func 33) [] [])) [(.t 9)], none⟩,
⟨(some 11), .call (.k (.fn (.func 36) [] [])) [(.t 8), (.t 10)], none⟩] (fullB 4) false)
(.seq
 (.reg [⟨(some 12), .mv (.t 5), none⟩,
⟨(some 13), .call (.k (.fn (.func 34) [] [])) [(.t 12)], none⟩,
⟨(some 4), .mv (.t 13), none⟩] (fullB 3) false)
 .ret))))
def rv : List RV := [.tmp 4]
/-! live dot_Union: [0, 1, 4, 5] -/
theorem c : cK Try.prog Try.f22.ntmps (Try.f22.body.getD .ret) = some s := by kernel_rfl
theorem b : Try.f22.body = some (Try.f22.body.getD .ret) := by kernel_rfl
theorem r : cRV Try.prog Try.f22.results.toList = some rv := by kernel_rfl
theorem ca : Callable Try.prog 22 = true := by kernel_rfl
theorem enter {args : List SV} {F : Hp} {k nk : Nat} {Q : SV → Hp → Prop} (hargs : SV.oks (fun n => decide (n < k)) args = true) (hF : F.ok (fun n => decide (n < k)) = true) (hN : args.length ≤ 14)
    (h : SW Try.prog 14 k s ⟨argE 0 args, F, k⟩ fun e st' => match e with | .normal => Fin k nk rv Q st' | .ret => Fin k nk rv Q st' | _ => False) : SB Try.prog 22 args F k nk Q :=
  SB.of_body Try.func22 b c r ca hargs hF hN h
end dot_Union
/-! ### tranter.tranterref03.Union -/
namespace ref03_Union
abbrev f : Nat := 23
def s : SCo := (.seq
(.reg [⟨(some 4), .mv (.k (.d .nils)), none⟩] (fullB 1) false)
(.seq
(.reg [⟨(some 5), .bsl 24 2 0 [] [], none⟩,
⟨(some 6), .mv (.t 0), none⟩,
⟨(some 7), .app 24 2 8 (.t 5) (.t 6), none⟩,
⟨(some 8), .mv (.t 1), none⟩,
⟨(some 9), .app 24 2 8 (.t 7) (.t 8), none⟩,
⟨(some 10), .call (.k (.fn (.func 21) [] [])) [(.t 9)], none⟩,
⟨(some 4), .mv (.t 10), none⟩] (fullB 7) false)
.ret))
def rv : List RV := [.tmp 4]
/-! live ref03_Union: [0, 1, 4] -/
theorem c : cK Try.prog Try.f23.ntmps (Try.f23.body.getD .ret) = some s := by kernel_rfl
theorem b : Try.f23.body = some (Try.f23.body.getD .ret) := by kernel_rfl
theorem r : cRV Try.prog Try.f23.results.toList = some rv := by kernel_rfl
theorem ca : Callable Try.prog 23 = true := by kernel_rfl
theorem enter {args : List SV} {F : Hp} {k nk : Nat} {Q : SV → Hp → Prop} (hargs : SV.oks (fun n => decide (n < k)) args = true) (hF : F.ok (fun n => decide (n < k)) = true) (hN : args.length ≤ 11)
    (h : SW Try.prog 11 k s ⟨argE 0 args, F, k⟩ fun e st' => match e with | .normal => Fin k nk rv Q st' | .ret => Fin k nk rv Q st' | _ => False) : SB Try.prog 23 args F k nk Q :=
  SB.of_body Try.func23 b c r ca hargs hF hN h
end ref03_Union
/-! ### tranter.dot.Both -/
namespace dot_Both
abbrev f : Nat := 24
def s : SCo := (.seq
(.reg [⟨(some 4), .mv (.k (.d .nils)), none⟩] (fullB 1) false)
(.seq
(.reg [⟨(some 5), .mv (.t 0), none⟩,
⟨(some 6), .mv (.t 1), none⟩,
⟨(some 7), .call (.k (.fn (.func 37) [] [])) [(.t 5), (.t 6), (.k (.d (.bool true)))], none⟩,
⟨(some 4), .mv (.t 7), none⟩] (fullB 4) false)
.ret))
def rv : List RV := [.tmp 4]
/-! live dot_Both: [0, 1, 4] -/
theorem c : cK Try.prog Try.f24.ntmps (Try.f24.body.getD .ret) = some s := by kernel_rfl
theorem b : Try.f24.body = some (Try.f24.body.getD .ret) := by kernel_rfl
theorem r : cRV Try.prog Try.f24.results.toList = some rv := by kernel_rfl
theorem ca : Callable Try.prog 24 = true := by kernel_rfl
theorem enter {args : List SV} {F : Hp} {k nk : Nat} {Q : SV → Hp → Prop} (hargs : SV.oks (fun n => decide (n < k)) args = true) (hF : F.ok (fun n => decide (n < k)) = true) (hN : args.length ≤ 8)
    (h : SW Try.prog 8 k s ⟨argE 0 args, F, k⟩ fun e st' => match e with | .normal => Fin k nk rv Q st' | .ret => Fin k nk rv Q st' | _ => False) : SB Try.prog 24 args F k nk Q :=
  SB.of_body Try.func24 b c r ca hargs hF hN h
end dot_Both
/-! ### tranter.tranterref03.Both -/
namespace ref03_Both
abbrev f : Nat := 25
def s : SCo := (.seq
(.reg [⟨(some 4), .mv (.k (.d .nils)), none⟩] (fullB 1) false)
(.seq
(.reg [⟨(some 5), .mv (.k (.d .nils)), none⟩] (fullB 1) false)
(.seq
(.seq
 (.reg [⟨(some 6), .mv (.k (.d (.int .i64 0))), none⟩] (fullB 1) false)
 (.block 0
 (.loop
 (.seq
 (.seq
  (.reg [⟨(some 7), .mv (.t 6), none⟩,
⟨(some 8), .mv (.t 0), none⟩,
⟨(some 9), .len (.t 8), none⟩,
⟨(some 10), .bin .lss (.t 7) (.t 9), none⟩] (fullB 4) false)
  (.cond (.t 10)
  .skip
  (.exit 0)))
 (.seq
  (.block 1
  (.seq
  (.reg [⟨(some 13), .mv (.t 1), none⟩,
⟨(some 14), .mv (.t 0), none⟩,
⟨(some 15), .mv (.t 6), none⟩,
⟨(some 16), .idxS 2 (.t 14) (.t 15), none⟩,
⟨(some 17), .load (some 2) (.t 16), none⟩,
⟨(some 18), .call (.k (.fn (.func 38) [] [])) [(.t 13), (.t 17)], none⟩] (fullB 6) false)
  (.cond (.t 18)
  (.reg [⟨(some 19), .mv (.t 5), none⟩,
⟨(some 20), .mv (.t 0), none⟩,
⟨(some 21), .mv (.t 6), none⟩,
⟨(some 22), .idxS 2 (.t 20) (.t 21), none⟩,
⟨(some 23), .load (some 2) (.t 22), none⟩,
⟨(some 24), .bsl 24 2 1 [(.d (.int .u8 0)), (.d (.int .u32 0))] [(0, 2, (.t 23))], none⟩,
⟨(some 25), .app 24 2 8 (.t 19) (.t 24), none⟩,
⟨(some 5), .mv (.t 25), none⟩] (fullB 8) false)
  .skip)))
  (.reg [⟨(some 11), .mv (.t 6), none⟩,
⟨(some 12), .bin .add (.t 11) (.k (.d (.int .i64 1))), none⟩,
⟨(some 6), .mv (.t 12), none⟩] (fullB 3) false))))))
(.seq
 (.reg [⟨(some 26), .mv (.t 5), none⟩,
⟨(some 27), .call (.k (.fn (.func 21) [] [])) [(.t 26)], none⟩,
⟨(some 4), .mv (.t 27), none⟩] (fullB 3) false)
 .ret))))
def rv : List RV := [.tmp 4]
/-! live ref03_Both: [0, 1, 4, 5, 6, 10, 18] -/
theorem c : cK Try.prog Try.f25.ntmps (Try.f25.body.getD .ret) = some s := by kernel_rfl
theorem b : Try.f25.body = some (Try.f25.body.getD .ret) := by kernel_rfl
theorem r : cRV Try.prog Try.f25.results.toList = some rv := by kernel_rfl
theorem ca : Callable Try.prog 25 = true := by kernel_rfl
theorem enter {args : List SV} {F : Hp} {k nk : Nat} {Q : SV → Hp → Prop} (hargs : SV.oks (fun n => decide (n < k)) args = true) (hF : F.ok (fun n => decide (n < k)) = true) (hN : args.length ≤ 28)
    (h : SW Try.prog 28 k s ⟨argE 0 args, F, k⟩ fun e st' => match e with | .normal => Fin k nk rv Q st' | .ret => Fin k nk rv Q st' | _ => False) : SB Try.prog 25 args F k nk Q :=
  SB.of_body Try.func25 b c r ca hargs hF hN h
end ref03_Both
/-! ### tranter.dot.Minus -/
namespace dot_Minus
abbrev f : Nat := 26
def s : SCo := (.seq
(.reg [⟨(some 4), .mv (.k (.d .nils)), none⟩] (fullB 1) false)
(.seq
(.reg [⟨(some 5), .mv (.t 0), none⟩,
⟨(some 6), .mv (.t 1), none⟩,
⟨(some 7), .call (.k (.fn (.func 37) [] [])) [(.t 5), (.t 6), (.k (.d (.bool false)))], none⟩,
⟨(some 4), .mv (.t 7), none⟩] (fullB 4) false)
.ret))
def rv : List RV := [.tmp 4]
/-! live dot_Minus: [0, 1, 4] -/
theorem c : cK Try.prog Try.f26.ntmps (Try.f26.body.getD .ret) = some s := by kernel_rfl
theorem b : Try.f26.body = some (Try.f26.body.getD .ret) := by kernel_rfl
theorem r : cRV Try.prog Try.f26.results.toList = some rv := by kernel_rfl
theorem ca : Callable Try.prog 26 = true := by kernel_rfl
theorem enter {args : List SV} {F : Hp} {k nk : Nat} {Q : SV → Hp → Prop} (hargs : SV.oks (fun n => decide (n < k)) args = true) (hF : F.ok (fun n => decide (n < k)) = true) (hN : args.length ≤ 8)
    (h : SW Try.prog 8 k s ⟨argE 0 args, F, k⟩ fun e st' => match e with | .normal => Fin k nk rv Q st' | .ret => Fin k nk rv Q st' | _ => False) : SB Try.prog 26 args F k nk Q :=
  SB.of_body Try.func26 b c r ca hargs hF hN h
end dot_Minus
/-! ### tranter.tranterref03.Minus -/
namespace ref03_Minus
abbrev f : Nat := 27
def s : SCo := (.seq
(.reg [⟨(some 4), .mv (.k (.d .nils)), none⟩] (fullB 1) false)
(.seq
(.reg [⟨(some 5), .mv (.k (.d .nils)), none⟩] (fullB 1) false)
(.seq
(.seq
 (.reg [⟨(some 6), .mv (.k (.d (.int .i64 0))), none⟩] (fullB 1) false)
 (.block 0
 (.loop
 (.seq
 (.seq
  (.reg [⟨(some 7), .mv (.t 6), none⟩,
⟨(some 8), .mv (.t 0), none⟩,
⟨(some 9), .len (.t 8), none⟩,
⟨(some 10), .bin .lss (.t 7) (.t 9), none⟩] (fullB 4) false)
  (.cond (.t 10)
  .skip
  (.exit 0)))
 (.seq
  (.block 1
  (.seq
  (.reg [⟨(some 13), .mv (.t 1), none⟩,
⟨(some 14), .mv (.t 0), none⟩,
⟨(some 15), .mv (.t 6), none⟩,
⟨(some 16), .idxS 2 (.t 14) (.t 15), none⟩,
⟨(some 17), .load (some 2) (.t 16), none⟩,
⟨(some 18), .call (.k (.fn (.func 38) [] [])) [(.t 13), (.t 17)], none⟩,
⟨(some 19), .not (.t 18), none⟩] (fullB 7) false)
  (.cond (.t 19)
  (.reg [⟨(some 20), .mv (.t 5), none⟩,
⟨(some 21), .mv (.t 0), none⟩,
⟨(some 22), .mv (.t 6), none⟩,
⟨(some 23), .idxS 2 (.t 21) (.t 22), none⟩,
⟨(some 24), .load (some 2) (.t 23), none⟩,
⟨(some 25), .bsl 24 2 1 [(.d (.int .u8 0)), (.d (.int .u32 0))] [(0, 2, (.t 24))], none⟩,
⟨(some 26), .app 24 2 8 (.t 20) (.t 25), none⟩,
⟨(some 5), .mv (.t 26), none⟩] (fullB 8) false)
  .skip)))
  (.reg [⟨(some 11), .mv (.t 6), none⟩,
⟨(some 12), .bin .add (.t 11) (.k (.d (.int .i64 1))), none⟩,
⟨(some 6), .mv (.t 12), none⟩] (fullB 3) false))))))
(.seq
 (.reg [⟨(some 27), .mv (.t 5), none⟩,
⟨(some 28), .call (.k (.fn (.func 21) [] [])) [(.t 27)], none⟩,
⟨(some 4), .mv (.t 28), none⟩] (fullB 3) false)
 .ret))))
def rv : List RV := [.tmp 4]
/-! live ref03_Minus: [0, 1, 4, 5, 6, 10, 19] -/
theorem c : cK Try.prog Try.f27.ntmps (Try.f27.body.getD .ret) = some s := by kernel_rfl
theorem b : Try.f27.body = some (Try.f27.body.getD .ret) := by kernel_rfl
theorem r : cRV Try.prog Try.f27.results.toList = some rv := by kernel_rfl
theorem ca : Callable Try.prog 27 = true := by kernel_rfl
theorem enter {args : List SV} {F : Hp} {k nk : Nat} {Q : SV → Hp → Prop} (hargs : SV.oks (fun n => decide (n < k)) args = true) (hF : F.ok (fun n => decide (n < k)) = true) (hN : args.length ≤ 29)
    (h : SW Try.prog 29 k s ⟨argE 0 args, F, k⟩ fun e st' => match e with | .normal => Fin k nk rv Q st' | .ret => Fin k nk rv Q st' | _ => False) : SB Try.prog 27 args F k nk Q :=
  SB.of_body Try.func27 b c r ca hargs hF hN h
end ref03_Minus
/-! ### tranter.dot.Of$1 -/
namespace dot_Of_1
abbrev f : Nat := 28
def s : SCo := (.seq
(.reg [⟨(some 3), .mv (.k (.d (.int .u64 0))), none⟩] (fullB 1) false)
(.seq
(.reg [⟨(some 5), .load none (.t 1), none⟩,
⟨(some 6), .mv (.t 0), none⟩,
⟨(some 7), .bin .shl (.k (.d (.int .u64 1))) (.t 6), none⟩,
⟨(some 8), .bin .sub (.t 7) (.k (.d (.int .u64 1))), none⟩,
⟨(some 9), .bin .and (.t 5) (.t 8), none⟩,
⟨(some 4), .mv (.t 9), none⟩] [0,
0,
2,
6,
15,
31] true)
(.seq
(.reg [⟨(some 10), .load none (.t 1), none⟩,
⟨(some 11), .mv (.t 0), none⟩,
⟨(some 12), .bin .shr (.t 10) (.t 11), none⟩,
⟨none, .store 1 (.t 1) (.t 12), none⟩] (fullB 4) false)
(.seq
 (.reg [⟨(some 13), .mv (.t 4), none⟩,
⟨(some 3), .mv (.t 13), none⟩] (fullB 2) false)
 .ret))))
def rv : List RV := [.tmp 3]
/-! live dot_Of_1: [0, 1, 3, 4] -/
theorem c : cK Try.prog Try.f28.ntmps (Try.f28.body.getD .ret) = some s := by kernel_rfl
theorem b : Try.f28.body = some (Try.f28.body.getD .ret) := by kernel_rfl
theorem r : cRV Try.prog Try.f28.results.toList = some rv := by kernel_rfl
theorem ca : Callable Try.prog 28 = true := by kernel_rfl
theorem enter {args : List SV} {F : Hp} {k nk : Nat} {Q : SV → Hp → Prop} (hargs : SV.oks (fun n => decide (n < k)) args = true) (hF : F.ok (fun n => decide (n < k)) = true) (hN : args.length ≤ 14)
    (h : SW Try.prog 14 k s ⟨argE 0 args, F, k⟩ fun e st' => match e with | .normal => Fin k nk rv Q st' | .ret => Fin k nk rv Q st' | _ => False) : SB Try.prog 28 args F k nk Q :=
  SB.of_body Try.func28 b c r ca hargs hF hN h
end dot_Of_1
/-! ### cmp.Or[int] -/
namespace cmp_Or_int
abbrev f : Nat := 29
def s : SCo := (.seq
(.reg [⟨(some 2), .mv (.k (.d (.int .i64 0))), none⟩] (fullB 1) false)
(.seq
(.reg [⟨(some 3), .mv (.k (.d (.int .i64 0))), none⟩] (fullB 1) false)
(.seq
(.seq
 (.reg [⟨(some 6), .mv (.t 0), none⟩,
⟨(some 7), .len (.t 6), none⟩,
⟨(some 8), .mv (.k (.d (.int .i64 0))), none⟩] (fullB 3) false)
 (.block 0
 (.loop
 (.seq
 (.reg [⟨(some 9), .bin .lss (.t 8) (.t 7), none⟩] (fullB 1) false)
 (.seq
  (.cond (.t 9)
  .skip
  (.exit 0))
  (.seq
  (.block 1
  (.seq
  (.reg [⟨(some 10), .idxS 1 (.t 6) (.t 8), none⟩,
⟨(some 11), .load none (.t 10), none⟩,
⟨(some 5), .mv (.t 11), none⟩] (fullB 3) false)
  (.seq
   (.reg [⟨(some 12), .mv (.t 5), none⟩,
⟨(some 13), .mv (.t 3), none⟩,
⟨(some 14), .bin .neq (.t 12) (.t 13), none⟩] (fullB 3) false)
   (.cond (.t 14)
   (.seq
   (.reg [⟨(some 15), .mv (.t 5), none⟩,
⟨(some 2), .mv (.t 15), none⟩] (fullB 2) false)
   .ret)
   .skip))))
  (.reg [⟨(some 16), .bin .add (.t 8) (.k (.d (.int .i64 1))), none⟩,
⟨(some 8), .mv (.t 16), none⟩] (fullB 2) false)))))))
(.seq
 (.reg [⟨(some 17), .mv (.t 3), none⟩,
⟨(some 2), .mv (.t 17), none⟩] (fullB 2) false)
 .ret))))
def rv : List RV := [.tmp 2]
/-! live cmp_Or_int: [0, 2, 3, 5, 6, 7, 8, 9, 14] -/
theorem c : cK Try.prog Try.f29.ntmps (Try.f29.body.getD .ret) = some s := by kernel_rfl
theorem b : Try.f29.body = some (Try.f29.body.getD .ret) := by kernel_rfl
theorem r : cRV Try.prog Try.f29.results.toList = some rv := by kernel_rfl
theorem ca : Callable Try.prog 29 = true := by kernel_rfl
theorem enter {args : List SV} {F : Hp} {k nk : Nat} {Q : SV → Hp → Prop} (hargs : SV.oks (fun n => decide (n < k)) args = true) (hF : F.ok (fun n => decide (n < k)) = true) (hN : args.length ≤ 18)
    (h : SW Try.prog 18 k s ⟨argE 0 args, F, k⟩ fun e st' => match e with | .normal => Fin k nk rv Q st' | .ret => Fin k nk rv Q st' | _ => False) : SB Try.prog 29 args F k nk Q :=
  SB.of_body Try.func29 b c r ca hargs hF hN h
end cmp_Or_int
/-! ### cmp.Compare[uint8] -/
namespace cmp_Compare_uint8
abbrev f : Nat := 30
def s : SCo := (.seq
(.reg [⟨(some 4), .mv (.k (.d (.int .i64 0))), none⟩] (fullB 1) false)
(.seq
(.reg [⟨(some 7), .mv (.t 0), none⟩,
⟨(some 8), .call (.k (.fn (.func 39) [] [])) [(.t 7)], none⟩,
⟨(some 5), .mv (.t 8), none⟩] (fullB 3) false)
(.seq
(.reg [⟨(some 9), .mv (.t 1), none⟩,
⟨(some 10), .call (.k (.fn (.func 39) [] [])) [(.t 9)], none⟩,
⟨(some 6), .mv (.t 10), none⟩] (fullB 3) false)
(.seq
 (.seq
 (.reg [⟨(some 11), .mv (.t 5), none⟩] (fullB 1) false)
 (.cond (.t 11)
 (.seq
 (.seq
  (.reg [⟨(some 12), .mv (.t 6), none⟩] (fullB 1) false)
  (.cond (.t 12)
  (.seq
  (.reg [⟨(some 4), .mv (.k (.d (.int .i64 0))), none⟩] (fullB 1) false)
  .ret)
  .skip))
 (.seq
  (.reg [⟨(some 4), .mv (.k (.d (.int .i64 (-1)))), none⟩] (fullB 1) false)
  .ret))
 .skip))
 (.seq
 (.seq
 (.reg [⟨(some 13), .mv (.t 6), none⟩] (fullB 1) false)
 (.cond (.t 13)
 (.seq
  (.reg [⟨(some 4), .mv (.k (.d (.int .i64 1))), none⟩] (fullB 1) false)
  .ret)
 .skip))
 (.seq
 (.seq
 (.reg [⟨(some 14), .mv (.t 0), none⟩,
⟨(some 15), .mv (.t 1), none⟩,
⟨(some 16), .bin .lss (.t 14) (.t 15), none⟩] (fullB 3) false)
 (.cond (.t 16)
  (.seq
  (.reg [⟨(some 4), .mv (.k (.d (.int .i64 (-1)))), none⟩] (fullB 1) false)
  .ret)
  .skip))
 (.seq
 (.seq
  (.reg [⟨(some 17), .mv (.t 0), none⟩,
⟨(some 18), .mv (.t 1), none⟩,
⟨(some 19), .bin .gtr (.t 17) (.t 18), none⟩] (fullB 3) false)
  (.cond (.t 19)
  (.seq
  (.reg [⟨(some 4), .mv (.k (.d (.int .i64 1))), none⟩] (fullB 1) false)
  .ret)
  .skip))
 (.seq
  (.reg [⟨(some 4), .mv (.k (.d (.int .i64 0))), none⟩] (fullB 1) false)
  .ret))))))))
def rv : List RV := [.tmp 4]
/-! live cmp_Compare_uint8: [0, 1, 4, 5, 6, 11, 12, 13, 16, 19] -/
theorem c : cK Try.prog Try.f30.ntmps (Try.f30.body.getD .ret) = some s := by kernel_rfl
theorem b : Try.f30.body = some (Try.f30.body.getD .ret) := by kernel_rfl
theorem r : cRV Try.prog Try.f30.results.toList = some rv := by kernel_rfl
theorem ca : Callable Try.prog 30 = true := by kernel_rfl
theorem enter {args : List SV} {F : Hp} {k nk : Nat} {Q : SV → Hp → Prop} (hargs : SV.oks (fun n => decide (n < k)) args = true) (hF : F.ok (fun n => decide (n < k)) = true) (hN : args.length ≤ 20)
    (h : SW Try.prog 20 k s ⟨argE 0 args, F, k⟩ fun e st' => match e with | .normal => Fin k nk rv Q st' | .ret => Fin k nk rv Q st' | _ => False) : SB Try.prog 30 args F k nk Q :=
  SB.of_body Try.func30 b c r ca hargs hF hN h
end cmp_Compare_uint8
/-! ### cmp.Compare[uint32] -/
namespace cmp_Compare_uint32
abbrev f : Nat := 31
def s : SCo := (.seq
(.reg [⟨(some 4), .mv (.k (.d (.int .i64 0))), none⟩] (fullB 1) false)
(.seq
(.reg [⟨(some 7), .mv (.t 0), none⟩,
⟨(some 8), .call (.k (.fn (.func 40) [] [])) [(.t 7)], none⟩,
⟨(some 5), .mv (.t 8), none⟩] (fullB 3) false)
(.seq
(.reg [⟨(some 9), .mv (.t 1), none⟩,
⟨(some 10), .call (.k (.fn (.func 40) [] [])) [(.t 9)], none⟩,
⟨(some 6), .mv (.t 10), none⟩] (fullB 3) false)
(.seq
 (.seq
 (.reg [⟨(some 11), .mv (.t 5), none⟩] (fullB 1) false)
 (.cond (.t 11)
 (.seq
 (.seq
  (.reg [⟨(some 12), .mv (.t 6), none⟩] (fullB 1) false)
  (.cond (.t 12)
  (.seq
  (.reg [⟨(some 4), .mv (.k (.d (.int .i64 0))), none⟩] (fullB 1) false)
  .ret)
  .skip))
 (.seq
  (.reg [⟨(some 4), .mv (.k (.d (.int .i64 (-1)))), none⟩] (fullB 1) false)
  .ret))
 .skip))
 (.seq
 (.seq
 (.reg [⟨(some 13), .mv (.t 6), none⟩] (fullB 1) false)
 (.cond (.t 13)
 (.seq
  (.reg [⟨(some 4), .mv (.k (.d (.int .i64 1))), none⟩] (fullB 1) false)
  .ret)
 .skip))
 (.seq
 (.seq
 (.reg [⟨(some 14), .mv (.t 0), none⟩,
⟨(some 15), .mv (.t 1), none⟩,
⟨(some 16), .bin .lss (.t 14) (.t 15), none⟩] (fullB 3) false)
 (.cond (.t 16)
  (.seq
  (.reg [⟨(some 4), .mv (.k (.d (.int .i64 (-1)))), none⟩] (fullB 1) false)
  .ret)
  .skip))
 (.seq
 (.seq
  (.reg [⟨(some 17), .mv (.t 0), none⟩,
⟨(some 18), .mv (.t 1), none⟩,
⟨(some 19), .bin .gtr (.t 17) (.t 18), none⟩] (fullB 3) false)
  (.cond (.t 19)
  (.seq
  (.reg [⟨(some 4), .mv (.k (.d (.int .i64 1))), none⟩] (fullB 1) false)
  .ret)
  .skip))
 (.seq
  (.reg [⟨(some 4), .mv (.k (.d (.int .i64 0))), none⟩] (fullB 1) false)
  .ret))))))))
def rv : List RV := [.tmp 4]
/-! live cmp_Compare_uint32: [0, 1, 4, 5, 6, 11, 12, 13, 16, 19] -/
theorem c : cK Try.prog Try.f31.ntmps (Try.f31.body.getD .ret) = some s := by kernel_rfl
theorem b : Try.f31.body = some (Try.f31.body.getD .ret) := by kernel_rfl
theorem r : cRV Try.prog Try.f31.results.toList = some rv := by kernel_rfl
theorem ca : Callable Try.prog 31 = true := by kernel_rfl
theorem enter {args : List SV} {F : Hp} {k nk : Nat} {Q : SV → Hp → Prop} (hargs : SV.oks (fun n => decide (n < k)) args = true) (hF : F.ok (fun n => decide (n < k)) = true) (hN : args.length ≤ 20)
    (h : SW Try.prog 20 k s ⟨argE 0 args, F, k⟩ fun e st' => match e with | .normal => Fin k nk rv Q st' | .ret => Fin k nk rv Q st' | _ => False) : SB Try.prog 31 args F k nk Q :=
  SB.of_body Try.func31 b c r ca hargs hF hN h
end cmp_Compare_uint32
/-! ### tranter.tranterlaw03.d -/
namespace law03_d
abbrev f : Nat := 32
def s : SCo := (.seq
(.reg [⟨(some 4), .alloc 24 [(.d (.int .u8 0)), (.d (.int .u32 0))], none⟩] (fullB 1) false)
(.seq
(.reg [⟨(some 5), .mv (.t 0), none⟩,
⟨(some 6), .mv (.t 1), none⟩,
⟨(some 7), .bld [(.d (.int .u8 0)), (.d (.int .u32 0))] [(0, 1, (.t 5)), (1, 1, (.t 6))], none⟩,
⟨none, .store 2 (.t 4) (.t 7), none⟩] (fullB 4) false)
.ret))
def rv : List RV := [.cell 4 (some 2)]
/-! live law03_d: [0, 1, 4] -/
theorem c : cK Try.prog Try.f32.ntmps (Try.f32.body.getD .ret) = some s := by kernel_rfl
theorem b : Try.f32.body = some (Try.f32.body.getD .ret) := by kernel_rfl
theorem r : cRV Try.prog Try.f32.results.toList = some rv := by kernel_rfl
theorem ca : Callable Try.prog 32 = true := by kernel_rfl
theorem enter {args : List SV} {F : Hp} {k nk : Nat} {Q : SV → Hp → Prop} (hargs : SV.oks (fun n => decide (n < k)) args = true) (hF : F.ok (fun n => decide (n < k)) = true) (hN : args.length ≤ 8)
    (h : SW Try.prog 8 k s ⟨argE 0 args, F, k⟩ fun e st' => match e with | .normal => Fin k nk rv Q st' | .ret => Fin k nk rv Q st' | _ => False) : SB Try.prog 32 args F k nk Q :=
  SB.of_body Try.func32 b c r ca hargs hF hN h
end law03_d
/-! ### tranter.dot.setOf -/
namespace dot_setOf
abbrev f : Nat := 33
def s : SCo := (.seq
(.reg [⟨(some 2), .mv (.k (.d .nilm)), none⟩] (fullB 1) false)
(.seq
(.reg [⟨(some 6), .mkm, none⟩,
⟨(some 3), .mv (.t 6), none⟩] (fullB 2) false)
(.seq
(.seq
 (.reg [⟨(some 7), .mv (.t 0), none⟩,
⟨(some 8), .len (.t 7), none⟩,
⟨(some 9), .mv (.k (.d (.int .i64 0))), none⟩] (fullB 3) false)
 (.block 0
 (.loop
 (.seq
 (.reg [⟨(some 10), .bin .lss (.t 9) (.t 8), none⟩] (fullB 1) false)
 (.seq
  (.cond (.t 10)
  .skip
  (.exit 0))
  (.seq
  (.block 1
  (.seq
  (.reg [⟨(some 11), .idxS 2 (.t 7) (.t 9), none⟩,
⟨(some 12), .load (some 2) (.t 11), none⟩,
⟨(some 5), .alloc 24 [(.d (.int .u8 0)), (.d (.int .u32 0))], none⟩,
⟨none, .store 2 (.t 5) (.t 12), none⟩] (fullB 4) false)
  (.reg [⟨(some 13), .mv (.t 3), none⟩,
⟨(some 14), .load (some 2) (.t 5), none⟩,
⟨none, .mset [true, true] true (.t 13) (.t 14) (.k (.d (.int .i64 1))), none⟩] (fullB 3) false)))
  (.reg [⟨(some 15), .bin .add (.t 9) (.k (.d (.int .i64 1))), none⟩,
⟨(some 9), .mv (.t 15), none⟩] (fullB 2) false)))))))
(.seq
 (.reg [⟨(some 16), .mv (.t 3), none⟩,
⟨(some 2), .mv (.t 16), none⟩] (fullB 2) false)
 .ret))))
def rv : List RV := [.tmp 2]
/-! live dot_setOf: [0, 2, 3, 5, 7, 8, 9, 10] -/
theorem c : cK Try.prog Try.f33.ntmps (Try.f33.body.getD .ret) = some s := by kernel_rfl
theorem b : Try.f33.body = some (Try.f33.body.getD .ret) := by kernel_rfl
theorem r : cRV Try.prog Try.f33.results.toList = some rv := by kernel_rfl
theorem ca : Callable Try.prog 33 = true := by kernel_rfl
theorem enter {args : List SV} {F : Hp} {k nk : Nat} {Q : SV → Hp → Prop} (hargs : SV.oks (fun n => decide (n < k)) args = true) (hF : F.ok (fun n => decide (n < k)) = true) (hN : args.length ≤ 17)
    (h : SW Try.prog 17 k s ⟨argE 0 args, F, k⟩ fun e st' => match e with | .normal => Fin k nk rv Q st' | .ret => Fin k nk rv Q st' | _ => False) : SB Try.prog 33 args F k nk Q :=
  SB.of_body Try.func33 b c r ca hargs hF hN h
end dot_setOf
/-! ### (tranter.dot.set).list -/
namespace dot_set_list
abbrev f : Nat := 34
def s : SCo := (.seq
(.reg [⟨(some 2), .mv (.k (.d .nils)), none⟩] (fullB 1) false)
(.seq
(.reg [⟨(some 3), .mv (.t 0), none⟩,
⟨(some 4), .call (.k (.fn (.func 42) [] [])) [(.t 3)], none⟩,
⟨(some 5), .call (.k (.fn (.func 41) [] [])) [(.t 4), (.k (.fn (.func 14) [] []))], none⟩,
⟨(some 2), .mv (.t 5), none⟩] (fullB 4) false)
.ret))
def rv : List RV := [.tmp 2]
/-! live dot_set_list: [0, 2] -/
theorem c : cK Try.prog Try.f34.ntmps (Try.f34.body.getD .ret) = some s := by kernel_rfl
theorem b : Try.f34.body = some (Try.f34.body.getD .ret) := by kernel_rfl
theorem r : cRV Try.prog Try.f34.results.toList = some rv := by kernel_rfl
theorem ca : Callable Try.prog 34 = true := by kernel_rfl
theorem enter {args : List SV} {F : Hp} {k nk : Nat} {Q : SV → Hp → Prop} (hargs : SV.oks (fun n => decide (n < k)) args = true) (hF : F.ok (fun n => decide (n < k)) = true) (hN : args.length ≤ 6)
    (h : SW Try.prog 6 k s ⟨argE 0 args, F, k⟩ fun e st' => match e with | .normal => Fin k nk rv Q st' | .ret => Fin k nk rv Q st' | _ => False) : SB Try.prog 34 args F k nk Q :=
  SB.of_body Try.func34 b c r ca hargs hF hN h
end dot_set_list
/-! ### tranter.tranterref03.with -/
namespace ref03_with
abbrev f : Nat := 35
def s : SCo := (.seq
(.reg [⟨(some 3), .box 24 (.t 1), none⟩,
⟨(some 4), .mv (.k (.d .nils)), none⟩] (fullB 2) false)
(.seq
(.seq
(.reg [⟨(some 7), .mv (.t 0), none⟩,
⟨(some 8), .load (some 2) (.t 3), none⟩,
⟨(some 9), .call (.k (.fn (.func 38) [] [])) [(.t 7), (.t 8)], none⟩] (fullB 3) false)
(.cond (.t 9)
 (.seq
 (.reg [⟨(some 10), .mv (.t 0), none⟩,
⟨(some 4), .mv (.t 10), none⟩] (fullB 2) false)
 .ret)
 .skip))
(.seq
(.reg [⟨(some 5), .mv (.k (.d .nils)), none⟩] (fullB 1) false)
(.seq
 (.reg [⟨(some 6), .mv (.k (.d (.int .i64 0))), none⟩] (fullB 1) false)
 (.seq
 (.block 0
 (.loop
 (.seq
  (.seq
  (.reg [⟨(some 11), .mv (.t 6), none⟩,
⟨(some 12), .mv (.t 0), none⟩,
⟨(some 13), .len (.t 12), none⟩,
⟨(some 14), .bin .lss (.t 11) (.t 13), none⟩,
⟨(some 15), .mv (.t 14), none⟩,
⟨(some 16), .mv (.t 0), some (15, true)⟩,
⟨(some 17), .mv (.t 6), some (15, true)⟩,
⟨(some 18), .idxS 2 (.t 16) (.t 17), some (15, true)⟩,
⟨(some 19), .load (some 2) (.t 18), some (15, true)⟩,
⟨(some 20), .load (some 2) (.t 3), some (15, true)⟩,
⟨(some 21), .call (.k (.fn (.func 15) [] [])) [(.t 19), (.t 20)], some (15, true)⟩,
⟨(some 22), .bin .lss (.t 21) (.k (.d (.int .i64 0))), some (15, true)⟩,
⟨(some 23), .pick (.t 15) (.t 22) (.k (.d (.bool false))), none⟩] [0,
0,
2,
7,
15,
31,
31,
127,
255,
31,
1023,
2047,
4095] true)
  (.cond (.t 23)
  .skip
  (.exit 0)))
  (.block 1
  (.seq
  (.reg [⟨(some 24), .mv (.t 5), none⟩,
⟨(some 25), .mv (.t 0), none⟩,
⟨(some 26), .mv (.t 6), none⟩,
⟨(some 27), .idxS 2 (.t 25) (.t 26), none⟩,
⟨(some 28), .load (some 2) (.t 27), none⟩,
⟨(some 29), .bsl 24 2 1 [(.d (.int .u8 0)), (.d (.int .u32 0))] [(0, 2, (.t 28))], none⟩,
⟨(some 30), .app 24 2 8 (.t 24) (.t 29), none⟩,
⟨(some 5), .mv (.t 30), none⟩] (fullB 8) false)
  (.reg [⟨(some 31), .mv (.t 6), none⟩,
⟨(some 32), .bin .add (.t 31) (.k (.d (.int .i64 1))), none⟩,
⟨(some 6), .mv (.t 32), none⟩] (fullB 3) false))))))
 (.seq
 (.reg [⟨(some 33), .mv (.t 5), none⟩,
⟨(some 34), .load (some 2) (.t 3), none⟩,
⟨(some 35), .bsl 24 2 1 [(.d (.int .u8 0)), (.d (.int .u32 0))] [(0, 2, (.t 34))], none⟩,
⟨(some 36), .app 24 2 8 (.t 33) (.t 35), none⟩,
⟨(some 5), .mv (.t 36), none⟩] (fullB 5) false)
 (.seq
 (.reg [⟨(some 37), .mv (.t 5), none⟩,
⟨(some 38), .mv (.t 0), none⟩,
⟨(some 39), .mv (.t 6), none⟩,
⟨(some 40), .slc 2 (.t 38) (some (.t 39)) none, none⟩,
⟨(some 41), .app 24 2 8 (.t 37) (.t 40), none⟩,
⟨(some 4), .mv (.t 41), none⟩] (fullB 6) false)
 .ret)))))))
def rv : List RV := [.tmp 4]
/-! live ref03_with: [0, 1, 3, 4, 5, 6, 9, 23] -/
theorem c : cK Try.prog Try.f35.ntmps (Try.f35.body.getD .ret) = some s := by kernel_rfl
theorem b : Try.f35.body = some (Try.f35.body.getD .ret) := by kernel_rfl
theorem r : cRV Try.prog Try.f35.results.toList = some rv := by kernel_rfl
theorem ca : Callable Try.prog 35 = true := by kernel_rfl
theorem enter {args : List SV} {F : Hp} {k nk : Nat} {Q : SV → Hp → Prop} (hargs : SV.oks (fun n => decide (n < k)) args = true) (hF : F.ok (fun n => decide (n < k)) = true) (hN : args.length ≤ 42)
    (h : SW Try.prog 42 k s ⟨argE 0 args, F, k⟩ fun e st' => match e with | .normal => Fin k nk rv Q st' | .ret => Fin k nk rv Q st' | _ => False) : SB Try.prog 35 args F k nk Q :=
  SB.of_body Try.func35 b c r ca hargs hF hN h
end ref03_with
/-! ### maps.Copy[tranter.dot.set,tranter.dot.set,tranter.api.Dot,int] -/
namespace maps_Copy_dot_set_dot_set_api_Dot_int
abbrev f : Nat := 36
def s : SCo := (.seq
(.reg [⟨(some 6), .mv (.t 1), none⟩,
⟨(some 7), .mrange (.t 6), none⟩] (fullB 2) false)
(.block 0
(.loop
(.seq
 (.reg [⟨(some 8), .mnext (.t 7), none⟩,
⟨(some 9), .ext 0 (.t 8), none⟩] (fullB 2) false)
 (.seq
 (.cond (.t 9)
 .skip
 (.exit 0))
 (.block 1
 (.seq
 (.reg [⟨(some 10), .mentry (.t 7), none⟩,
⟨(some 11), .ext 0 (.t 10), none⟩,
⟨(some 12), .ext 1 (.t 10), none⟩,
⟨(some 4), .alloc 24 [(.d (.int .u8 0)), (.d (.int .u32 0))], none⟩,
⟨none, .store 2 (.t 4) (.t 11), none⟩,
⟨(some 5), .mv (.t 12), none⟩] (fullB 6) false)
 (.reg [⟨(some 13), .mv (.t 0), none⟩,
⟨(some 14), .load (some 2) (.t 4), none⟩,
⟨(some 15), .mv (.t 5), none⟩,
⟨none, .mset [true, true] true (.t 13) (.t 14) (.t 15), none⟩] (fullB 4) false))))))))
def rv : List RV := []
/-! live maps_Copy_dot_set_dot_set_api_Dot_int: [0, 1, 4, 5, 7, 9] -/
theorem c : cK Try.prog Try.f36.ntmps (Try.f36.body.getD .ret) = some s := by kernel_rfl
theorem b : Try.f36.body = some (Try.f36.body.getD .ret) := by kernel_rfl
theorem r : cRV Try.prog Try.f36.results.toList = some rv := by kernel_rfl
theorem ca : Callable Try.prog 36 = true := by kernel_rfl
theorem enter {args : List SV} {F : Hp} {k nk : Nat} {Q : SV → Hp → Prop} (hargs : SV.oks (fun n => decide (n < k)) args = true) (hF : F.ok (fun n => decide (n < k)) = true) (hN : args.length ≤ 16)
    (h : SW Try.prog 16 k s ⟨argE 0 args, F, k⟩ fun e st' => match e with | .normal => Fin k nk rv Q st' | .ret => Fin k nk rv Q st' | _ => False) : SB Try.prog 36 args F k nk Q :=
  SB.of_body Try.func36 b c r ca hargs hF hN h
end maps_Copy_dot_set_dot_set_api_Dot_int
/-! ### tranter.dot.some -/
namespace dot_some
abbrev f : Nat := 37
def s : SCo := (.seq
(.reg [⟨(some 5), .box 4 (.t 2), none⟩,
⟨(some 6), .mv (.k (.d .nils)), none⟩] (fullB 2) false)
(.seq
(.reg [⟨(some 9), .mv (.t 0), none⟩,
⟨(some 10), .call (.k (.fn (.func 33) [] [])) [(.t 9)], none⟩,
⟨(some 11), .mv (.t 1), none⟩,
⟨(some 12), .call (.k (.fn (.func 33) [] [])) [(.t 11)], none⟩,
⟨(some 8), .alloc 56 [(.d .nilm)], none⟩,
⟨(some 7), .mv (.t 10), none⟩,
⟨none, .store 1 (.t 8) (.t 12), none⟩] (fullB 7) false)
(.seq
(.reg [⟨(some 13), .mv (.t 7), none⟩,
⟨(some 14), .mkf (.func 44) [] [(.t 8), (.t 5)], none⟩,
⟨(some 15), .call (.k (.fn (.func 43) [] [])) [(.t 13), (.t 14)], none⟩] (fullB 3) false)
(.seq
 (.reg [⟨(some 16), .mv (.t 7), none⟩,
⟨(some 17), .call (.k (.fn (.func 34) [] [])) [(.t 16)], none⟩,
⟨(some 6), .mv (.t 17), none⟩] (fullB 3) false)
 .ret))))
def rv : List RV := [.tmp 6]
/-! live dot_some: [0, 1, 2, 5, 6, 7, 8] -/
theorem c : cK Try.prog Try.f37.ntmps (Try.f37.body.getD .ret) = some s := by kernel_rfl
theorem b : Try.f37.body = some (Try.f37.body.getD .ret) := by kernel_rfl
theorem r : cRV Try.prog Try.f37.results.toList = some rv := by kernel_rfl
theorem ca : Callable Try.prog 37 = true := by kernel_rfl
theorem enter {args : List SV} {F : Hp} {k nk : Nat} {Q : SV → Hp → Prop} (hargs : SV.oks (fun n => decide (n < k)) args = true) (hF : F.ok (fun n => decide (n < k)) = true) (hN : args.length ≤ 18)
    (h : SW Try.prog 18 k s ⟨argE 0 args, F, k⟩ fun e st' => match e with | .normal => Fin k nk rv Q st' | .ret => Fin k nk rv Q st' | _ => False) : SB Try.prog 37 args F k nk Q :=
  SB.of_body Try.func37 b c r ca hargs hF hN h
end dot_some
/-! ### tranter.tranterref03.In -/
namespace ref03_In
abbrev f : Nat := 38
def s : SCo := (.seq
(.reg [⟨(some 3), .box 24 (.t 1), none⟩,
⟨(some 4), .mv (.k (.d (.bool false))), none⟩] (fullB 2) false)
(.seq
(.seq
(.reg [⟨(some 5), .mv (.k (.d (.int .i64 0))), none⟩] (fullB 1) false)
(.block 0
 (.loop
 (.seq
 (.seq
 (.reg [⟨(some 6), .mv (.t 5), none⟩,
⟨(some 7), .mv (.t 0), none⟩,
⟨(some 8), .len (.t 7), none⟩,
⟨(some 9), .bin .lss (.t 6) (.t 8), none⟩] (fullB 4) false)
 (.cond (.t 9)
  .skip
  (.exit 0)))
 (.seq
 (.block 1
  (.seq
  (.reg [⟨(some 12), .mv (.t 0), none⟩,
⟨(some 13), .mv (.t 5), none⟩,
⟨(some 14), .idxS 2 (.t 12) (.t 13), none⟩,
⟨(some 15), .load (some 2) (.t 14), none⟩,
⟨(some 16), .load (some 2) (.t 3), none⟩,
⟨(some 17), .eqv false [true, true] (.t 15) (.t 16), none⟩] [0,
0,
3,
7,
0,
31] true)
  (.cond (.t 17)
  (.seq
  (.reg [⟨(some 4), .mv (.k (.d (.bool true))), none⟩] (fullB 1) false)
  .ret)
  .skip)))
 (.reg [⟨(some 10), .mv (.t 5), none⟩,
⟨(some 11), .bin .add (.t 10) (.k (.d (.int .i64 1))), none⟩,
⟨(some 5), .mv (.t 11), none⟩] (fullB 3) false))))))
(.seq
(.reg [⟨(some 4), .mv (.k (.d (.bool false))), none⟩] (fullB 1) false)
.ret)))
def rv : List RV := [.tmp 4]
/-! live ref03_In: [0, 1, 3, 4, 5, 9, 17] -/
theorem c : cK Try.prog Try.f38.ntmps (Try.f38.body.getD .ret) = some s := by kernel_rfl
theorem b : Try.f38.body = some (Try.f38.body.getD .ret) := by kernel_rfl
theorem r : cRV Try.prog Try.f38.results.toList = some rv := by kernel_rfl
theorem ca : Callable Try.prog 38 = true := by kernel_rfl
theorem enter {args : List SV} {F : Hp} {k nk : Nat} {Q : SV → Hp → Prop} (hargs : SV.oks (fun n => decide (n < k)) args = true) (hF : F.ok (fun n => decide (n < k)) = true) (hN : args.length ≤ 18)
    (h : SW Try.prog 18 k s ⟨argE 0 args, F, k⟩ fun e st' => match e with | .normal => Fin k nk rv Q st' | .ret => Fin k nk rv Q st' | _ => False) : SB Try.prog 38 args F k nk Q :=
  SB.of_body Try.func38 b c r ca hargs hF hN h
end ref03_In
/-! ### cmp.isNaN[uint8] -/
namespace cmp_isNaN_uint8
abbrev f : Nat := 39
def s : SCo := (.seq
(.reg [⟨(some 2), .mv (.k (.d (.bool false))), none⟩] (fullB 1) false)
(.seq
(.reg [⟨(some 3), .mv (.t 0), none⟩,
⟨(some 4), .mv (.t 0), none⟩,
⟨(some 5), .bin .neq (.t 3) (.t 4), none⟩,
⟨(some 2), .mv (.t 5), none⟩] (fullB 4) false)
.ret))
def rv : List RV := [.tmp 2]
/-! live cmp_isNaN_uint8: [0, 2] -/
theorem c : cK Try.prog Try.f39.ntmps (Try.f39.body.getD .ret) = some s := by kernel_rfl
theorem b : Try.f39.body = some (Try.f39.body.getD .ret) := by kernel_rfl
theorem r : cRV Try.prog Try.f39.results.toList = some rv := by kernel_rfl
theorem ca : Callable Try.prog 39 = true := by kernel_rfl
theorem enter {args : List SV} {F : Hp} {k nk : Nat} {Q : SV → Hp → Prop} (hargs : SV.oks (fun n => decide (n < k)) args = true) (hF : F.ok (fun n => decide (n < k)) = true) (hN : args.length ≤ 6)
    (h : SW Try.prog 6 k s ⟨argE 0 args, F, k⟩ fun e st' => match e with | .normal => Fin k nk rv Q st' | .ret => Fin k nk rv Q st' | _ => False) : SB Try.prog 39 args F k nk Q :=
  SB.of_body Try.func39 b c r ca hargs hF hN h
end cmp_isNaN_uint8
/-! ### cmp.isNaN[uint32] -/
namespace cmp_isNaN_uint32
abbrev f : Nat := 40
def s : SCo := (.seq
(.reg [⟨(some 2), .mv (.k (.d (.bool false))), none⟩] (fullB 1) false)
(.seq
(.reg [⟨(some 3), .mv (.t 0), none⟩,
⟨(some 4), .mv (.t 0), none⟩,
⟨(some 5), .bin .neq (.t 3) (.t 4), none⟩,
⟨(some 2), .mv (.t 5), none⟩] (fullB 4) false)
.ret))
def rv : List RV := [.tmp 2]
/-! live cmp_isNaN_uint32: [0, 2] -/
theorem c : cK Try.prog Try.f40.ntmps (Try.f40.body.getD .ret) = some s := by kernel_rfl
theorem b : Try.f40.body = some (Try.f40.body.getD .ret) := by kernel_rfl
theorem r : cRV Try.prog Try.f40.results.toList = some rv := by kernel_rfl
theorem ca : Callable Try.prog 40 = true := by kernel_rfl
theorem enter {args : List SV} {F : Hp} {k nk : Nat} {Q : SV → Hp → Prop} (hargs : SV.oks (fun n => decide (n < k)) args = true) (hF : F.ok (fun n => decide (n < k)) = true) (hN : args.length ≤ 6)
    (h : SW Try.prog 6 k s ⟨argE 0 args, F, k⟩ fun e st' => match e with | .normal => Fin k nk rv Q st' | .ret => Fin k nk rv Q st' | _ => False) : SB Try.prog 40 args F k nk Q :=
  SB.of_body Try.func40 b c r ca hargs hF hN h
end cmp_isNaN_uint32
/-! ### slices.SortedFunc[tranter.api.Dot] -/
namespace slices_SortedFunc_api_Dot
abbrev f : Nat := 41
def s : SCo := (.seq
(.reg [⟨(some 4), .mv (.k (.d .nils)), none⟩] (fullB 1) false)
(.seq
(.reg [⟨(some 6), .mv (.t 0), none⟩,
⟨(some 7), .call (.k (.fn (.func 45) [] [])) [(.t 6)], none⟩,
⟨(some 5), .mv (.t 7), none⟩] (fullB 3) false)
(.seq
(.reg [⟨(some 8), .mv (.t 5), none⟩,
⟨(some 9), .mv (.t 1), none⟩,
⟨(some 10), .call (.k (.fn (.func 46) [] [])) [(.t 8), (.t 9)], none⟩] (fullB 3) false)
(.seq
 (.reg [⟨(some 11), .mv (.t 5), none⟩,
⟨(some 4), .mv (.t 11), none⟩] (fullB 2) false)
 .ret))))
def rv : List RV := [.tmp 4]
/-! live slices_SortedFunc_api_Dot: [0, 1, 4, 5] -/
theorem c : cK Try.prog Try.f41.ntmps (Try.f41.body.getD .ret) = some s := by kernel_rfl
theorem b : Try.f41.body = some (Try.f41.body.getD .ret) := by kernel_rfl
theorem r : cRV Try.prog Try.f41.results.toList = some rv := by kernel_rfl
theorem ca : Callable Try.prog 41 = true := by kernel_rfl
theorem enter {args : List SV} {F : Hp} {k nk : Nat} {Q : SV → Hp → Prop} (hargs : SV.oks (fun n => decide (n < k)) args = true) (hF : F.ok (fun n => decide (n < k)) = true) (hN : args.length ≤ 12)
    (h : SW Try.prog 12 k s ⟨argE 0 args, F, k⟩ fun e st' => match e with | .normal => Fin k nk rv Q st' | .ret => Fin k nk rv Q st' | _ => False) : SB Try.prog 41 args F k nk Q :=
  SB.of_body Try.func41 b c r ca hargs hF hN h
end slices_SortedFunc_api_Dot
/-! ### maps.Keys[tranter.dot.set,tranter.api.Dot,int] -/
namespace maps_Keys_dot_set_api_Dot_int
abbrev f : Nat := 42
def s : SCo := (.seq
(.reg [⟨(some 1), .box 56 (.t 0), none⟩,
⟨(some 2), .mv (.k (.d .nilf)), none⟩] (fullB 2) false)
(.seq
(.reg [⟨(some 3), .mkf (.func 47) [] [(.t 1)], none⟩,
⟨(some 2), .mv (.t 3), none⟩] (fullB 2) false)
.ret))
def rv : List RV := [.tmp 2]
/-! live maps_Keys_dot_set_api_Dot_int: [0, 1, 2] -/
theorem c : cK Try.prog Try.f42.ntmps (Try.f42.body.getD .ret) = some s := by kernel_rfl
theorem b : Try.f42.body = some (Try.f42.body.getD .ret) := by kernel_rfl
theorem r : cRV Try.prog Try.f42.results.toList = some rv := by kernel_rfl
theorem ca : Callable Try.prog 42 = true := by kernel_rfl
theorem enter {args : List SV} {F : Hp} {k nk : Nat} {Q : SV → Hp → Prop} (hargs : SV.oks (fun n => decide (n < k)) args = true) (hF : F.ok (fun n => decide (n < k)) = true) (hN : args.length ≤ 4)
    (h : SW Try.prog 4 k s ⟨argE 0 args, F, k⟩ fun e st' => match e with | .normal => Fin k nk rv Q st' | .ret => Fin k nk rv Q st' | _ => False) : SB Try.prog 42 args F k nk Q :=
  SB.of_body Try.func42 b c r ca hargs hF hN h
end maps_Keys_dot_set_api_Dot_int
/-! ### maps.DeleteFunc[tranter.dot.set,tranter.api.Dot,int] -/
namespace maps_DeleteFunc_dot_set_api_Dot_int
abbrev f : Nat := 43
def s : SCo := (.seq
(.reg [⟨(some 6), .mv (.t 0), none⟩,
⟨(some 7), .mrange (.t 6), none⟩] (fullB 2) false)
(.block 0
(.loop
(.seq
 (.reg [⟨(some 8), .mnext (.t 7), none⟩,
⟨(some 9), .ext 0 (.t 8), none⟩] (fullB 2) false)
 (.seq
 (.cond (.t 9)
 .skip
 (.exit 0))
 (.block 1
 (.seq
 (.reg [⟨(some 10), .mentry (.t 7), none⟩,
⟨(some 11), .ext 0 (.t 10), none⟩,
⟨(some 12), .ext 1 (.t 10), none⟩,
⟨(some 4), .alloc 24 [(.d (.int .u8 0)), (.d (.int .u32 0))], none⟩,
⟨none, .store 2 (.t 4) (.t 11), none⟩,
⟨(some 5), .mv (.t 12), none⟩] (fullB 6) false)
 (.seq
  (.reg [⟨(some 13), .mv (.t 1), none⟩,
⟨(some 14), .load (some 2) (.t 4), none⟩,
⟨(some 15), .mv (.t 5), none⟩,
⟨(some 16), .call (.t 13) [(.t 14), (.t 15)], none⟩] (fullB 4) false)
  (.cond (.t 16)
  (.reg [⟨(some 17), .mv (.t 0), none⟩,
⟨(some 18), .load (some 2) (.t 4), none⟩,
⟨none, .mdel [true, true] true (.t 17) (.t 18), none⟩] (fullB 3) false)
  .skip)))))))))
def rv : List RV := []
/-! live maps_DeleteFunc_dot_set_api_Dot_int: [0, 1, 4, 5, 7, 9, 16] -/
theorem c : cK Try.prog Try.f43.ntmps (Try.f43.body.getD .ret) = some s := by kernel_rfl
theorem b : Try.f43.body = some (Try.f43.body.getD .ret) := by kernel_rfl
theorem r : cRV Try.prog Try.f43.results.toList = some rv := by kernel_rfl
theorem ca : Callable Try.prog 43 = true := by kernel_rfl
theorem enter {args : List SV} {F : Hp} {k nk : Nat} {Q : SV → Hp → Prop} (hargs : SV.oks (fun n => decide (n < k)) args = true) (hF : F.ok (fun n => decide (n < k)) = true) (hN : args.length ≤ 19)
    (h : SW Try.prog 19 k s ⟨argE 0 args, F, k⟩ fun e st' => match e with | .normal => Fin k nk rv Q st' | .ret => Fin k nk rv Q st' | _ => False) : SB Try.prog 43 args F k nk Q :=
  SB.of_body Try.func43 b c r ca hargs hF hN h
end maps_DeleteFunc_dot_set_api_Dot_int
/-! ### tranter.dot.some$1 -/
namespace dot_some_1
abbrev f : Nat := 44
def s : SCo := (.seq
(.reg [⟨(some 4), .box 24 (.t 0), none⟩,
⟨(some 6), .mv (.k (.d (.bool false))), none⟩] (fullB 2) false)
(.seq
(.reg [⟨(some 7), .load none (.t 2), none⟩,
⟨(some 8), .load (some 2) (.t 4), none⟩,
⟨(some 9), .look [true, true] true (.d (.int .i64 0)) (.t 7) (.t 8) false, none⟩,
⟨(some 10), .bin .gtr (.t 9) (.k (.d (.int .i64 0))), none⟩,
⟨(some 11), .load none (.t 3), none⟩,
⟨(some 12), .eqb true (.t 10) (.t 11), none⟩,
⟨(some 6), .mv (.t 12), none⟩] [0,
0,
3,
7,
0,
31,
63] true)
.ret))
def rv : List RV := [.tmp 6]
/-! live dot_some_1: [0, 2, 3, 4, 6] -/
theorem c : cK Try.prog Try.f44.ntmps (Try.f44.body.getD .ret) = some s := by kernel_rfl
theorem b : Try.f44.body = some (Try.f44.body.getD .ret) := by kernel_rfl
theorem r : cRV Try.prog Try.f44.results.toList = some rv := by kernel_rfl
theorem ca : Callable Try.prog 44 = true := by kernel_rfl
theorem enter {args : List SV} {F : Hp} {k nk : Nat} {Q : SV → Hp → Prop} (hargs : SV.oks (fun n => decide (n < k)) args = true) (hF : F.ok (fun n => decide (n < k)) = true) (hN : args.length ≤ 13)
    (h : SW Try.prog 13 k s ⟨argE 0 args, F, k⟩ fun e st' => match e with | .normal => Fin k nk rv Q st' | .ret => Fin k nk rv Q st' | _ => False) : SB Try.prog 44 args F k nk Q :=
  SB.of_body Try.func44 b c r ca hargs hF hN h
end dot_some_1
/-! ### slices.Collect[tranter.api.Dot] -/
namespace slices_Collect_api_Dot
abbrev f : Nat := 45
def s : SCo := (.seq
(.reg [⟨(some 2), .mv (.k (.d .nils)), none⟩] (fullB 1) false)
(.seq
(.reg [⟨(some 3), .mv (.t 0), none⟩,
⟨(some 4), .call (.k (.fn (.func 48) [] [])) [(.k (.d .nils)), (.t 3)], none⟩,
⟨(some 2), .mv (.t 4), none⟩] (fullB 3) false)
.ret))
def rv : List RV := [.tmp 2]
/-! live slices_Collect_api_Dot: [0, 2] -/
theorem c : cK Try.prog Try.f45.ntmps (Try.f45.body.getD .ret) = some s := by kernel_rfl
theorem b : Try.f45.body = some (Try.f45.body.getD .ret) := by kernel_rfl
theorem r : cRV Try.prog Try.f45.results.toList = some rv := by kernel_rfl
theorem ca : Callable Try.prog 45 = true := by kernel_rfl
theorem enter {args : List SV} {F : Hp} {k nk : Nat} {Q : SV → Hp → Prop} (hargs : SV.oks (fun n => decide (n < k)) args = true) (hF : F.ok (fun n => decide (n < k)) = true) (hN : args.length ≤ 5)
    (h : SW Try.prog 5 k s ⟨argE 0 args, F, k⟩ fun e st' => match e with | .normal => Fin k nk rv Q st' | .ret => Fin k nk rv Q st' | _ => False) : SB Try.prog 45 args F k nk Q :=
  SB.of_body Try.func45 b c r ca hargs hF hN h
end slices_Collect_api_Dot
/-! ### slices.SortFunc[[]tranter.api.Dot,tranter.api.Dot] -/
namespace slices_SortFunc_Lapi_Dot_api_Dot
abbrev f : Nat := 46
def s : SCo := (.seq
(.reg [⟨(some 5), .mv (.t 0), none⟩,
⟨(some 6), .len (.t 5), none⟩,
⟨(some 4), .mv (.t 6), none⟩] (fullB 3) false)
(.reg [⟨(some 7), .mv (.t 0), none⟩,
⟨(some 8), .mv (.t 4), none⟩,
⟨(some 9), .mv (.t 4), none⟩,
⟨(some 10), .conv .u64 (.t 9), none⟩,
⟨(some 11), .call (.k (.fn (.func 50) [] [])) [(.t 10)], none⟩,
⟨(some 12), .mv (.t 1), none⟩,
⟨(some 13), .call (.k (.fn (.func 49) [] [])) [(.t 7), (.k (.d (.int .i64 0))), (.t 8), (.t 11), (.t 12)], none⟩] (fullB 7) false))
def rv : List RV := []
/-! live slices_SortFunc_Lapi_Dot_api_Dot: [0, 1, 4] -/
theorem c : cK Try.prog Try.f46.ntmps (Try.f46.body.getD .ret) = some s := by kernel_rfl
theorem b : Try.f46.body = some (Try.f46.body.getD .ret) := by kernel_rfl
theorem r : cRV Try.prog Try.f46.results.toList = some rv := by kernel_rfl
theorem ca : Callable Try.prog 46 = true := by kernel_rfl
theorem enter {args : List SV} {F : Hp} {k nk : Nat} {Q : SV → Hp → Prop} (hargs : SV.oks (fun n => decide (n < k)) args = true) (hF : F.ok (fun n => decide (n < k)) = true) (hN : args.length ≤ 14)
    (h : SW Try.prog 14 k s ⟨argE 0 args, F, k⟩ fun e st' => match e with | .normal => Fin k nk rv Q st' | .ret => Fin k nk rv Q st' | _ => False) : SB Try.prog 46 args F k nk Q :=
  SB.of_body Try.func46 b c r ca hargs hF hN h
end slices_SortFunc_Lapi_Dot_api_Dot
/-! ### maps.Keys[tranter.dot.set,tranter.api.Dot,int]$1 -/
namespace maps_Keys_dot_set_api_Dot_int_1
abbrev f : Nat := 47
def s : SCo := (.seq
(.reg [⟨(some 4), .load none (.t 1), none⟩,
⟨(some 5), .mrange (.t 4), none⟩] (fullB 2) false)
(.block 0
(.loop
(.seq
 (.reg [⟨(some 6), .mnext (.t 5), none⟩,
⟨(some 7), .ext 0 (.t 6), none⟩] (fullB 2) false)
 (.seq
 (.cond (.t 7)
 .skip
 (.exit 0))
 (.block 1
 (.seq
 (.reg [⟨(some 8), .mentry (.t 5), none⟩,
⟨(some 9), .ext 0 (.t 8), none⟩,
⟨(some 3), .alloc 24 [(.d (.int .u8 0)), (.d (.int .u32 0))], none⟩,
⟨none, .store 2 (.t 3) (.t 9), none⟩] (fullB 4) false)
 (.seq
  (.reg [⟨(some 10), .mv (.t 0), none⟩,
⟨(some 11), .load (some 2) (.t 3), none⟩,
⟨(some 12), .call (.t 10) [(.t 11)], none⟩,
⟨(some 13), .not (.t 12), none⟩] (fullB 4) false)
  (.cond (.t 13)
  .ret
  .skip)))))))))
def rv : List RV := []
/-! live maps_Keys_dot_set_api_Dot_int_1: [0, 1, 3, 5, 7, 13] -/
theorem c : cK Try.prog Try.f47.ntmps (Try.f47.body.getD .ret) = some s := by kernel_rfl
theorem b : Try.f47.body = some (Try.f47.body.getD .ret) := by kernel_rfl
theorem r : cRV Try.prog Try.f47.results.toList = some rv := by kernel_rfl
theorem ca : Callable Try.prog 47 = true := by kernel_rfl
theorem enter {args : List SV} {F : Hp} {k nk : Nat} {Q : SV → Hp → Prop} (hargs : SV.oks (fun n => decide (n < k)) args = true) (hF : F.ok (fun n => decide (n < k)) = true) (hN : args.length ≤ 14)
    (h : SW Try.prog 14 k s ⟨argE 0 args, F, k⟩ fun e st' => match e with | .normal => Fin k nk rv Q st' | .ret => Fin k nk rv Q st' | _ => False) : SB Try.prog 47 args F k nk Q :=
  SB.of_body Try.func47 b c r ca hargs hF hN h
end maps_Keys_dot_set_api_Dot_int_1
/-! ### slices.AppendSeq[[]tranter.api.Dot,tranter.api.Dot] -/
namespace slices_AppendSeq_Lapi_Dot_api_Dot
abbrev f : Nat := 48
def s : SCo := (.seq
(.reg [⟨(some 2), .box 39 (.t 0), none⟩,
⟨(some 4), .mv (.k (.d .nils)), none⟩] (fullB 2) false)
(.seq
(.seq
(.reg [⟨(some 6), .mv (.t 1), none⟩] (fullB 1) false)
(.block 0
 (.rfun (.t 6) [7]
 (.reg [⟨(some 5), .alloc 24 [(.d (.int .u8 0)), (.d (.int .u32 0))], none⟩,
⟨none, .store 2 (.t 5) (.t 7), none⟩] (fullB 2) false)
 (.block 1
 (.reg [⟨(some 8), .load none (.t 2), none⟩,
⟨(some 9), .load (some 2) (.t 5), none⟩,
⟨(some 10), .bsl 24 2 1 [(.d (.int .u8 0)), (.d (.int .u32 0))] [(0, 2, (.t 9))], none⟩,
⟨(some 11), .app 24 2 8 (.t 8) (.t 10), none⟩,
⟨none, .store 1 (.t 2) (.t 11), none⟩] (fullB 5) false)))))
(.seq
(.reg [⟨(some 12), .load none (.t 2), none⟩,
⟨(some 4), .mv (.t 12), none⟩] (fullB 2) false)
.ret)))
def rv : List RV := [.tmp 4]
/-! live slices_AppendSeq_Lapi_Dot_api_Dot: [0, 1, 2, 4, 5, 6, 7] -/
theorem c : cK Try.prog Try.f48.ntmps (Try.f48.body.getD .ret) = some s := by kernel_rfl
theorem b : Try.f48.body = some (Try.f48.body.getD .ret) := by kernel_rfl
theorem r : cRV Try.prog Try.f48.results.toList = some rv := by kernel_rfl
theorem ca : Callable Try.prog 48 = true := by kernel_rfl
theorem enter {args : List SV} {F : Hp} {k nk : Nat} {Q : SV → Hp → Prop} (hargs : SV.oks (fun n => decide (n < k)) args = true) (hF : F.ok (fun n => decide (n < k)) = true) (hN : args.length ≤ 13)
    (h : SW Try.prog 13 k s ⟨argE 0 args, F, k⟩ fun e st' => match e with | .normal => Fin k nk rv Q st' | .ret => Fin k nk rv Q st' | _ => False) : SB Try.prog 48 args F k nk Q :=
  SB.of_body Try.func48 b c r ca hargs hF hN h
end slices_AppendSeq_Lapi_Dot_api_Dot
end Go.Proofs.Ytkklgckpaajoeaa
