/-
  The code of the functions in the small form, by program (gen.py); each is checked against the translation by the kernel.
-/
import Derived.Test.YtacdkgkpoelhdaaChecked
import Derived.Test.YtacdkgkpoelhdaaJ4
set_option linter.unusedVariables false
set_option linter.unusedSimpArgs false
set_option linter.unusedSectionVars false
namespace Go.Proofs.Ytacdkgkpoelhdaa
open Go.Sl Go.Proofs
theorem mixed : Try.prog.follows .mixedOrders = true := by kernel_rfl
abbrev T_int : Nat := 3
abbrev T_bool : Nat := 4
abbrev T_uint8 : Nat := 5
abbrev T_L_api_Op : Nat := 22
abbrev T_uint32 : Nat := 23
abbrev T_api_Vector : Nat := 25
abbrev T_L_uint8 : Nat := 26
abbrev T_api_Dot : Nat := 37
abbrev T_L_api_Claim : Nat := 39
abbrev T_api_Op : Nat := 41
abbrev T_L_tranterlaw12_Act : Nat := 59
abbrev T_tranterlaw12_Act : Nat := 61
abbrev T_api_Claim : Nat := 120
abbrev T_func_uint32_uint32_uint32 : Nat := 139
namespace law12_StableSafe
abbrev f : Nat := 3
def s : SCo := (.seq
(.reg [⟨(some 4), .box 25 (.t 1), none⟩,
⟨(some 6), .mv (.k (.d (.bool false))), none⟩] (fullB 2) false)
(.seq
(.reg [⟨(some 15), .call (.k (.fn (.func 9) [] [])) [(.k (.d (.int .i64 8))), (.k (.d (.int .u8 0)))], none⟩,
⟨(some 14), .mv (.t 15), none⟩,
⟨(some 16), .ext 0 (.t 14), none⟩,
⟨(some 17), .ext 1 (.t 14), none⟩,
⟨(some 7), .mv (.t 16), none⟩,
⟨(some 8), .mv (.t 17), none⟩] (fullB 6) false)
(.seq
(.seq
 (.reg (⟨(some 18), .mv (.t 8), none⟩ ::
⟨(some 19), .bin .neq (.t 18) (.k (.d (.int .i64 0))), none⟩ ::
⟨(some 20), .mv (.t 19), none⟩ ::
⟨(some 21), .mv (.t 7), some (20, false)⟩ ::
⟨(some 22), .eqnil false 0 (.t 21), some (20, false)⟩ ::
⟨(some 23), .pick (.t 20) (.k (.d (.bool true))) (.t 22), none⟩ ::
⟨(some 24), .mv (.t 23), none⟩ ::
⟨(some 25), .mv (.t 0), some (24, false)⟩ ::
⟨(some 26), .call (.k (.fn (.func 10) [] [])) [(.t 25), (.k (.d (.int .i64 8)))], some (24, false)⟩ ::
⟨(some 27), .bin .neq (.t 26) (.k (.d (.int .i64 0))), some (24, false)⟩ ::
⟨(some 28), .pick (.t 24) (.k (.d (.bool true))) (.t 27), none⟩ ::
⟨(some 29), .mv (.t 28), none⟩ ::
⟨(some 30), .mv (.t 0), some (29, false)⟩ ::
⟨(some 31), .call (.k (.fn (.func 11) [] [])) [(.t 30)], some (29, false)⟩ ::
⟨(some 32), .pick (.t 29) (.k (.d (.bool true))) (.t 31), none⟩ ::
⟨(some 33), .mv (.t 32), none⟩ ::
⟨(some 34), .mv (.t 7), some (33, false)⟩ ::
⟨(some 35), .load (some 8) (.t 4), some (33, false)⟩ ::
⟨(some 36), .call (.k (.fn (.func 12) [] [])) [(.t 34), (.t 35)], some (33, false)⟩ ::
⟨(some 37), .bin .neq (.t 36) (.k (.d (.int .i64 0))), some (33, false)⟩ ::
⟨(some 38), .pick (.t 33) (.k (.d (.bool true))) (.t 37), none⟩ :: []) (fullB 21) false)
 (.cond (.t 38)
 (.seq
 (.reg [⟨(some 39), .mv (.t 7), none⟩,
⟨(some 40), .eqnil true 0 (.t 39), none⟩,
⟨(some 41), .mv (.t 40), none⟩,
⟨(some 42), .call (.k (.fn (.func 13) [] [])) [], some (41, true)⟩,
⟨(some 43), .pick (.t 41) (.t 42) (.k (.d (.bool false))), none⟩,
⟨(some 6), .mv (.t 43), none⟩] (fullB 6) false)
 .ret)
 .skip))
(.seq
 (.seq
 (.reg [⟨(some 44), .mv (.t 0), none⟩,
⟨(some 45), .call (.k (.fn (.func 14) [] [])) [(.t 44)], none⟩,
⟨(some 46), .index 8 1 false (.t 45) (.k (.d (.int .i64 0))), none⟩,
⟨(some 47), .idxA 8 1 (.t 4) (.k (.d (.int .i64 0))), none⟩,
⟨(some 48), .load none (.t 47), none⟩,
⟨(some 49), .bin .neq (.t 46) (.t 48), none⟩] [0,
1,
3,
0,
8,
31] true)
 (.cond (.t 49)
 (.seq
 (.reg [⟨(some 50), .call (.k (.fn (.func 13) [] [])) [], none⟩,
⟨(some 6), .mv (.t 50), none⟩] (fullB 2) false)
 .ret)
 .skip))
 (.seq
 (.seq
 (.reg [⟨(some 9), .mv (.k (.d (.int .i64 0))), none⟩] (fullB 1) false)
 (.block 0
 (.loop
  (.seq
  (.seq
  (.reg [⟨(some 51), .mv (.t 9), none⟩,
⟨(some 52), .mv (.t 2), none⟩,
⟨(some 53), .len (.t 52), none⟩,
⟨(some 54), .bin .lss (.t 51) (.t 53), none⟩,
⟨(some 55), .mv (.t 54), none⟩,
⟨(some 56), .mv (.t 9), some (55, true)⟩,
⟨(some 57), .bin .lss (.t 56) (.k (.d (.int .i64 100))), some (55, true)⟩,
⟨(some 58), .pick (.t 55) (.t 57) (.k (.d (.bool false))), none⟩,
⟨(some 59), .mv (.t 58), none⟩,
⟨(some 60), .mv (.t 0), some (59, true)⟩,
⟨(some 61), .len (.t 60), some (59, true)⟩,
⟨(some 62), .bin .gtr (.t 61) (.k (.d (.int .i64 0))), some (59, true)⟩,
⟨(some 63), .pick (.t 59) (.t 62) (.k (.d (.bool false))), none⟩] (fullB 13) false)
  (.cond (.t 63)
  .skip
  (.exit 0)))
  (.seq
  (.block 1
  (.seq
   (.reg [⟨(some 66), .mv (.t 0), none⟩,
⟨(some 67), .mv (.t 2), none⟩,
⟨(some 68), .mv (.t 9), none⟩,
⟨(some 69), .idxS 1 (.t 67) (.t 68), none⟩,
⟨(some 70), .load none (.t 69), none⟩,
⟨(some 71), .conv .i64 (.t 70), none⟩,
⟨(some 72), .mv (.t 0), none⟩,
⟨(some 73), .len (.t 72), none⟩,
⟨(some 74), .bin .rem (.t 71) (.t 73), none⟩,
⟨(some 75), .idxS 29 (.t 66) (.t 74), none⟩,
⟨(some 76), .load (some 29) (.t 75), none⟩,
⟨(some 10), .alloc 41 [(.d (.int .u8 0)), (.d (.int .u32 0)), (.d (.int .u32 0)), (.d (.int .u32 0)), (.d (.int .u32 0)), (.d (.int .u32 0)), (.d (.int .u32 0)), (.d (.int .u32 0)), (.d (.int .u32 0)), (.d (.int .u32 0)), (.d (.int .u64 0)), (.d (.int .u32 0)), (.d (.int .u8 0)), (.d (.int .u32 0)), (.d (.int .u8 0)), (.d (.int .u8 0)), (.d (.int .u32 0)), (.d (.int .u32 0)), (.d (.int .u8 0)), (.d (.int .u8 0)), (.d (.int .u64 0)), (.d (.int .u8 0)), (.d (.int .u32 0)), (.d (.int .u8 0)), (.d (.int .u32 0)), (.d (.int .u32 0)), (.d (.int .u32 0)), (.d (.int .u32 0)), (.d .nils)], none⟩,
⟨none, .store 29 (.t 10) (.t 76), none⟩] (fullB 13) false)
   (.seq
   (.reg [⟨(some 77), .fld 2 (.t 10), none⟩,
⟨(some 78), .load (some 8) (.t 77), none⟩,
⟨(some 11), .alloc 25 [(.d (.int .u32 0)), (.d (.int .u32 0)), (.d (.int .u32 0)), (.d (.int .u32 0)), (.d (.int .u32 0)), (.d (.int .u32 0)), (.d (.int .u32 0)), (.d (.int .u32 0))], none⟩,
⟨none, .store 8 (.t 11) (.t 78), none⟩] (fullB 4) false)
   (.seq
   (.reg [⟨(some 79), .fld 0 (.t 10), none⟩,
⟨(some 80), .fld 0 (.t 79), none⟩,
⟨(some 81), .load none (.t 80), none⟩,
⟨(some 82), .fld 0 (.t 10), none⟩,
⟨(some 83), .fld 1 (.t 82), none⟩,
⟨(some 84), .load none (.t 83), none⟩,
⟨(some 85), .idxA 8 1 (.t 11) (.t 81), none⟩,
⟨none, .store 1 (.t 85) (.t 84), none⟩] (fullB 8) false)
   (.reg [⟨(some 86), .mv (.t 7), none⟩,
⟨(some 87), .fld 0 (.t 10), none⟩,
⟨(some 88), .fld 0 (.t 87), none⟩,
⟨(some 89), .load none (.t 88), none⟩,
⟨(some 90), .load (some 8) (.t 11), none⟩,
⟨(some 91), .call (.k (.fn (.func 15) [] [])) [(.t 86), (.t 89), (.t 90)], none⟩] (fullB 6) false)))))
  (.reg [⟨(some 64), .mv (.t 9), none⟩,
⟨(some 65), .bin .add (.t 64) (.k (.d (.int .i64 1))), none⟩,
⟨(some 9), .mv (.t 65), none⟩] (fullB 3) false))))))
 (.seq
 (.reg [⟨(some 92), .mv (.t 7), none⟩,
⟨(some 93), .call (.k (.fn (.func 16) [] [])) [(.t 92)], none⟩,
⟨(some 12), .alloc 25 [(.d (.int .u32 0)), (.d (.int .u32 0)), (.d (.int .u32 0)), (.d (.int .u32 0)), (.d (.int .u32 0)), (.d (.int .u32 0)), (.d (.int .u32 0)), (.d (.int .u32 0))], none⟩,
⟨none, .store 8 (.t 12) (.t 93), none⟩] (fullB 4) false)
 (.seq
 (.seq
  (.reg [⟨(some 13), .mv (.k (.d (.int .i64 0))), none⟩] (fullB 1) false)
  (.block 2
  (.loop
  (.seq
  (.seq
   (.reg [⟨(some 94), .mv (.t 13), none⟩,
⟨(some 95), .mv (.t 0), none⟩,
⟨(some 96), .len (.t 95), none⟩,
⟨(some 97), .bin .lss (.t 94) (.t 96), none⟩] (fullB 4) false)
   (.cond (.t 97)
   .skip
   (.exit 2)))
  (.seq
   (.block 3
   (.seq
   (.reg (⟨(some 100), .load (some 8) (.t 4), none⟩ ::
⟨(some 101), .mv (.t 0), none⟩ ::
⟨(some 102), .mv (.t 13), none⟩ ::
⟨(some 103), .idxS 29 (.t 101) (.t 102), none⟩ ::
⟨(some 104), .fld 0 (.t 103), none⟩ ::
⟨(some 105), .load (some 2) (.t 104), none⟩ ::
⟨(some 106), .call (.k (.fn (.func 17) [] [])) [(.t 100), (.t 105)], none⟩ ::
⟨(some 107), .not (.t 106), none⟩ ::
⟨(some 108), .mv (.t 107), none⟩ ::
⟨(some 109), .mv (.t 0), some (108, true)⟩ ::
⟨(some 110), .mv (.t 13), some (108, true)⟩ ::
⟨(some 111), .idxS 29 (.t 109) (.t 110), some (108, true)⟩ ::
⟨(some 112), .fld 2 (.t 111), some (108, true)⟩ ::
⟨(some 113), .load (some 8) (.t 112), some (108, true)⟩ ::
⟨(some 114), .load (some 8) (.t 12), some (108, true)⟩ ::
⟨(some 115), .call (.k (.fn (.func 18) [] [])) [(.t 113), (.t 114)], some (108, true)⟩ ::
⟨(some 116), .not (.t 115), some (108, true)⟩ ::
⟨(some 117), .pick (.t 108) (.t 116) (.k (.d (.bool false))), none⟩ :: []) (0 ::
0 ::
0 ::
6 ::
14 ::
30 ::
63 ::
127 ::
255 ::
511 ::
511 ::
2047 ::
4095 ::
8191 ::
511 ::
32767 ::
65535 ::
131071 :: []) true)
   (.cond (.t 117)
   (.seq
    (.reg [⟨(some 6), .mv (.k (.d (.bool false))), none⟩] (fullB 1) false)
    .ret)
   .skip)))
   (.reg [⟨(some 98), .mv (.t 13), none⟩,
⟨(some 99), .bin .add (.t 98) (.k (.d (.int .i64 1))), none⟩,
⟨(some 13), .mv (.t 99), none⟩] (fullB 3) false))))))
 (.seq
  (.reg [⟨(some 118), .call (.k (.fn (.func 13) [] [])) [], none⟩,
⟨(some 6), .mv (.t 118), none⟩] (fullB 2) false)
  .ret))))))))
def rv : List RV := [.tmp 6]
theorem c : cK Try.prog Try.f3.ntmps (Try.f3.body.getD .ret) = some s := by kernel_rfl
theorem b : Try.f3.body = some (Try.f3.body.getD .ret) := by kernel_rfl
theorem r : cRV Try.prog Try.f3.results.toList = some rv := by kernel_rfl
theorem ca : Callable Try.prog 3 = true := by kernel_rfl
theorem enter {args : List SV} {F : Hp} {k nk : Nat} {Q : SV → Hp → Prop} (hargs : SV.oks (fun n => decide (n < k)) args = true) (hF : F.ok (fun n => decide (n < k)) = true) (hN : args.length ≤ 119)
    (h : SW Try.prog 119 k s ⟨argE 0 args, F, k⟩ fun e st' => match e with | .normal => Fin k nk rv Q st' | .ret => Fin k nk rv Q st' | _ => False) : SB Try.prog 3 args F k nk Q :=
  SB.of_body Try.func3 b c r ca hargs hF hN h
end law12_StableSafe
namespace law16_TreeBegins
end law16_TreeBegins
namespace law12_StableGrows
abbrev f : Nat := 5
def s : SCo := (.seq
(.reg [⟨(some 5), .box 61 (.t 2), none⟩,
⟨(some 6), .mv (.k (.d (.bool false))), none⟩] (fullB 2) false)
(.seq
(.reg [⟨(some 18), .mv (.t 0), none⟩,
⟨(some 19), .call (.k (.fn (.func 9) [] [])) [(.t 18), (.k (.d (.int .u8 0)))], none⟩,
⟨(some 17), .mv (.t 19), none⟩,
⟨(some 20), .ext 0 (.t 17), none⟩,
⟨(some 21), .ext 1 (.t 17), none⟩,
⟨(some 7), .mv (.t 20), none⟩,
⟨(some 8), .mv (.t 21), none⟩] (fullB 7) false)
(.seq
(.seq
 (.reg [⟨(some 22), .mv (.t 8), none⟩,
⟨(some 23), .bin .neq (.t 22) (.k (.d (.int .i64 0))), none⟩,
⟨(some 24), .mv (.t 23), none⟩,
⟨(some 25), .mv (.t 7), some (24, false)⟩,
⟨(some 26), .eqnil false 0 (.t 25), some (24, false)⟩,
⟨(some 27), .pick (.t 24) (.k (.d (.bool true))) (.t 26), none⟩] (fullB 6) false)
 (.cond (.t 27)
 (.seq
 (.reg [⟨(some 28), .mv (.t 8), none⟩,
⟨(some 29), .bin .neq (.t 28) (.k (.d (.int .i64 0))), none⟩,
⟨(some 30), .mv (.t 29), none⟩,
⟨(some 31), .call (.k (.fn (.func 13) [] [])) [], some (30, true)⟩,
⟨(some 32), .pick (.t 30) (.t 31) (.k (.d (.bool false))), none⟩,
⟨(some 6), .mv (.t 32), none⟩] (fullB 6) false)
 .ret)
 .skip))
(.seq
 (.seq
 (.reg [⟨(some 9), .mv (.k (.d (.int .i64 0))), none⟩] (fullB 1) false)
 (.block 0
 (.loop
 (.seq
  (.seq
  (.reg [⟨(some 33), .mv (.t 9), none⟩,
⟨(some 34), .mv (.t 1), none⟩,
⟨(some 35), .len (.t 34), none⟩,
⟨(some 36), .bin .lss (.t 33) (.t 35), none⟩,
⟨(some 37), .mv (.t 36), none⟩,
⟨(some 38), .mv (.t 9), some (37, true)⟩,
⟨(some 39), .bin .lss (.t 38) (.k (.d (.int .i64 40))), some (37, true)⟩,
⟨(some 40), .pick (.t 37) (.t 39) (.k (.d (.bool false))), none⟩] (fullB 8) false)
  (.cond (.t 40)
  .skip
  (.exit 0)))
  (.seq
  (.block 1
  (.seq
  (.reg [⟨(some 43), .mv (.t 1), none⟩,
⟨(some 44), .mv (.t 9), none⟩,
⟨(some 45), .idxS 10 (.t 43) (.t 44), none⟩,
⟨(some 46), .fld 0 (.t 45), none⟩,
⟨(some 47), .load none (.t 46), none⟩] (fullB 5) false)
  (.cond (.t 47)
   (.reg [⟨(some 48), .mv (.t 7), none⟩,
⟨(some 49), .mv (.t 1), none⟩,
⟨(some 50), .mv (.t 9), none⟩,
⟨(some 51), .idxS 10 (.t 49) (.t 50), none⟩,
⟨(some 52), .fld 2 (.t 51), none⟩,
⟨(some 53), .load (some 8) (.t 52), none⟩,
⟨(some 54), .call (.k (.fn (.func 12) [] [])) [(.t 48), (.t 53)], none⟩] (fullB 7) false)
   (.reg [⟨(some 55), .mv (.t 7), none⟩,
⟨(some 56), .mv (.t 1), none⟩,
⟨(some 57), .mv (.t 9), none⟩,
⟨(some 58), .idxS 10 (.t 56) (.t 57), none⟩,
⟨(some 59), .fld 1 (.t 58), none⟩,
⟨(some 60), .load none (.t 59), none⟩,
⟨(some 61), .mv (.t 1), none⟩,
⟨(some 62), .mv (.t 9), none⟩,
⟨(some 63), .idxS 10 (.t 61) (.t 62), none⟩,
⟨(some 64), .fld 2 (.t 63), none⟩,
⟨(some 65), .load (some 8) (.t 64), none⟩,
⟨(some 66), .call (.k (.fn (.func 15) [] [])) [(.t 55), (.t 60), (.t 65)], none⟩] [0,
0,
0,
6,
14,
30,
0,
0,
192,
448,
960,
2047] true))))
  (.reg [⟨(some 41), .mv (.t 9), none⟩,
⟨(some 42), .bin .add (.t 41) (.k (.d (.int .i64 1))), none⟩,
⟨(some 9), .mv (.t 42), none⟩] (fullB 3) false))))))
 (.seq
 (.reg [⟨(some 67), .mv (.t 7), none⟩,
⟨(some 68), .call (.k (.fn (.func 25) [] [])) [(.t 67)], none⟩,
⟨(some 10), .mv (.t 68), none⟩] (fullB 3) false)
 (.seq
 (.reg [⟨(some 11), .mv (.k (.d (.int .i64 0))), none⟩] (fullB 1) false)
 (.seq
 (.seq
  (.reg [⟨(some 69), .fld 0 (.t 5), none⟩,
⟨(some 70), .load none (.t 69), none⟩] (fullB 2) false)
  (.cond (.t 70)
  (.reg [⟨(some 71), .mv (.t 10), none⟩,
⟨(some 72), .fld 2 (.t 5), none⟩,
⟨(some 73), .load (some 8) (.t 72), none⟩,
⟨(some 74), .call (.k (.fn (.func 12) [] [])) [(.t 71), (.t 73)], none⟩,
⟨(some 11), .mv (.t 74), none⟩] (fullB 5) false)
  (.reg [⟨(some 75), .mv (.t 10), none⟩,
⟨(some 76), .fld 1 (.t 5), none⟩,
⟨(some 77), .load none (.t 76), none⟩,
⟨(some 78), .fld 2 (.t 5), none⟩,
⟨(some 79), .load (some 8) (.t 78), none⟩,
⟨(some 80), .call (.k (.fn (.func 15) [] [])) [(.t 75), (.t 77), (.t 79)], none⟩,
⟨(some 11), .mv (.t 80), none⟩] (fullB 7) false)))
 (.seq
  (.seq
  (.reg [⟨(some 12), .mv (.k (.d (.int .i64 0))), none⟩] (fullB 1) false)
  (.block 2
  (.loop
  (.seq
   (.seq
   (.reg [⟨(some 81), .mv (.t 12), none⟩,
⟨(some 82), .mv (.t 0), none⟩,
⟨(some 83), .bin .lss (.t 81) (.t 82), none⟩] (fullB 3) false)
   (.cond (.t 83)
   .skip
   (.exit 2)))
   (.seq
   (.block 3
   (.seq
   (.reg [⟨(some 87), .mv (.t 7), none⟩,
⟨(some 88), .mv (.t 12), none⟩,
⟨(some 89), .conv .u8 (.t 88), none⟩,
⟨(some 90), .call (.k (.fn (.func 26) [] [])) [(.t 87), (.t 89)], none⟩,
⟨(some 86), .mv (.t 90), none⟩,
⟨(some 91), .ext 0 (.t 86), none⟩,
⟨(some 92), .ext 1 (.t 86), none⟩,
⟨(some 13), .alloc 25 [(.d (.int .u32 0)), (.d (.int .u32 0)), (.d (.int .u32 0)), (.d (.int .u32 0)), (.d (.int .u32 0)), (.d (.int .u32 0)), (.d (.int .u32 0)), (.d (.int .u32 0))], none⟩,
⟨none, .store 8 (.t 13) (.t 91), none⟩,
⟨(some 14), .mv (.t 92), none⟩] (fullB 10) false)
   (.seq
    (.reg [⟨(some 94), .mv (.t 10), none⟩,
⟨(some 95), .mv (.t 12), none⟩,
⟨(some 96), .conv .u8 (.t 95), none⟩,
⟨(some 97), .call (.k (.fn (.func 26) [] [])) [(.t 94), (.t 96)], none⟩,
⟨(some 93), .mv (.t 97), none⟩,
⟨(some 98), .ext 0 (.t 93), none⟩,
⟨(some 99), .ext 1 (.t 93), none⟩,
⟨(some 15), .alloc 25 [(.d (.int .u32 0)), (.d (.int .u32 0)), (.d (.int .u32 0)), (.d (.int .u32 0)), (.d (.int .u32 0)), (.d (.int .u32 0)), (.d (.int .u32 0)), (.d (.int .u32 0))], none⟩,
⟨none, .store 8 (.t 15) (.t 98), none⟩,
⟨(some 16), .mv (.t 99), none⟩] (fullB 10) false)
    (.seq
    (.reg [⟨(some 100), .load (some 8) (.t 15), none⟩,
⟨(some 101), .load (some 8) (.t 13), none⟩,
⟨(some 102), .call (.k (.fn (.func 18) [] [])) [(.t 100), (.t 101)], none⟩,
⟨(some 103), .not (.t 102), none⟩,
⟨(some 104), .mv (.t 103), none⟩,
⟨(some 105), .mv (.t 11), some (104, false)⟩,
⟨(some 106), .bin .neq (.t 105) (.k (.d (.int .i64 0))), some (104, false)⟩,
⟨(some 107), .mv (.t 106), some (104, false)⟩,
⟨(some 108), .load (some 8) (.t 13), some (107, true)⟩,
⟨(some 109), .load (some 8) (.t 15), some (107, true)⟩,
⟨(some 110), .eqv true [true, true, true, true, true, true, true, true] (.t 108) (.t 109), some (107, true)⟩,
⟨(some 111), .pick (.t 107) (.t 110) (.k (.d (.bool false))), some (104, false)⟩,
⟨(some 112), .pick (.t 104) (.k (.d (.bool true))) (.t 111), none⟩] (fullB 13) false)
    (.cond (.t 112)
    (.seq
    (.reg [⟨(some 6), .mv (.k (.d (.bool false))), none⟩] (fullB 1) false)
    .ret)
    .skip)))))
   (.reg [⟨(some 84), .mv (.t 12), none⟩,
⟨(some 85), .bin .add (.t 84) (.k (.d (.int .i64 1))), none⟩,
⟨(some 12), .mv (.t 85), none⟩] (fullB 3) false))))))
  (.seq
  (.reg (⟨(some 113), .mv (.t 10), none⟩ ::
⟨(some 114), .call (.k (.fn (.func 16) [] [])) [(.t 113)], none⟩ ::
⟨(some 115), .mv (.t 7), none⟩ ::
⟨(some 116), .call (.k (.fn (.func 16) [] [])) [(.t 115)], none⟩ ::
⟨(some 117), .call (.k (.fn (.func 18) [] [])) [(.t 114), (.t 116)], none⟩ ::
⟨(some 118), .mv (.t 117), none⟩ ::
⟨(some 119), .mv (.t 11), some (118, true)⟩ ::
⟨(some 120), .bin .eql (.t 119) (.k (.d (.int .i64 0))), some (118, true)⟩ ::
⟨(some 121), .mv (.t 120), some (118, true)⟩ ::
⟨(some 122), .mv (.t 10), some (121, false)⟩ ::
⟨(some 123), .call (.k (.fn (.func 16) [] [])) [(.t 122)], some (121, false)⟩ ::
⟨(some 124), .mv (.t 7), some (121, false)⟩ ::
⟨(some 125), .call (.k (.fn (.func 16) [] [])) [(.t 124)], some (121, false)⟩ ::
⟨(some 126), .eqv false [true, true, true, true, true, true, true, true] (.t 123) (.t 125), some (121, false)⟩ ::
⟨(some 127), .mv (.t 126), some (121, false)⟩ ::
⟨(some 128), .mv (.t 10), some (127, true)⟩ ::
⟨(some 129), .call (.k (.fn (.func 27) [] [])) [(.t 128)], some (127, true)⟩ ::
⟨(some 130), .mv (.t 7), some (127, true)⟩ ::
⟨(some 131), .call (.k (.fn (.func 27) [] [])) [(.t 130)], some (127, true)⟩ ::
⟨(some 132), .bin .eql (.t 129) (.t 131), some (127, true)⟩ ::
⟨(some 133), .pick (.t 127) (.t 132) (.k (.d (.bool false))), some (121, false)⟩ ::
⟨(some 134), .pick (.t 121) (.k (.d (.bool true))) (.t 133), some (118, true)⟩ ::
⟨(some 135), .pick (.t 118) (.t 134) (.k (.d (.bool false))), none⟩ ::
⟨(some 136), .mv (.t 135), none⟩ ::
⟨(some 137), .call (.k (.fn (.func 13) [] [])) [], some (136, true)⟩ ::
⟨(some 138), .pick (.t 136) (.t 137) (.k (.d (.bool false))), none⟩ ::
⟨(some 6), .mv (.t 138), none⟩ :: []) (fullB 27) false)
  .ret)))))))))
def rv : List RV := [.tmp 6]
theorem c : cK Try.prog Try.f5.ntmps (Try.f5.body.getD .ret) = some s := by kernel_rfl
theorem b : Try.f5.body = some (Try.f5.body.getD .ret) := by kernel_rfl
theorem r : cRV Try.prog Try.f5.results.toList = some rv := by kernel_rfl
theorem ca : Callable Try.prog 5 = true := by kernel_rfl
theorem enter {args : List SV} {F : Hp} {k nk : Nat} {Q : SV → Hp → Prop} (hargs : SV.oks (fun n => decide (n < k)) args = true) (hF : F.ok (fun n => decide (n < k)) = true) (hN : args.length ≤ 139)
    (h : SW Try.prog 139 k s ⟨argE 0 args, F, k⟩ fun e st' => match e with | .normal => Fin k nk rv Q st' | .ret => Fin k nk rv Q st' | _ => False) : SB Try.prog 5 args F k nk Q :=
  SB.of_body Try.func5 b c r ca hargs hF hN h
end law12_StableGrows
namespace law12_StablePlays
end law12_StablePlays
namespace stable_New
abbrev f : Nat := 9
def s : SCo := (.seq
(.reg [⟨(some 4), .mv (.k (.d .nilp)), none⟩,
⟨(some 5), .mv (.k (.d (.int .i64 0))), none⟩] (fullB 2) false)
(.seq
(.seq
(.reg [⟨(some 6), .mv (.t 0), none⟩,
⟨(some 7), .bin .lss (.t 6) (.k (.d (.int .i64 1))), none⟩,
⟨(some 8), .mv (.t 7), none⟩,
⟨(some 9), .mv (.t 0), some (8, false)⟩,
⟨(some 10), .bin .gtr (.t 9) (.k (.d (.int .i64 8))), some (8, false)⟩,
⟨(some 11), .pick (.t 8) (.k (.d (.bool true))) (.t 10), none⟩,
⟨(some 12), .mv (.t 11), none⟩,
⟨(some 13), .mv (.t 1), some (12, false)⟩,
⟨(some 14), .conv .i64 (.t 13), some (12, false)⟩,
⟨(some 15), .mv (.t 0), some (12, false)⟩,
⟨(some 16), .bin .geq (.t 14) (.t 15), some (12, false)⟩,
⟨(some 17), .pick (.t 12) (.k (.d (.bool true))) (.t 16), none⟩] (fullB 12) false)
(.cond (.t 17)
 (.seq
 (.reg [⟨(some 4), .mv (.k (.d .nilp)), none⟩,
⟨(some 5), .mv (.k (.d (.int .i64 2))), none⟩] (fullB 2) false)
 .ret)
 .skip))
(.seq
(.reg [⟨(some 18), .mv (.t 0), none⟩,
⟨(some 19), .mv (.t 1), none⟩,
⟨(some 20), .bld [(.d (.int .i64 0)), (.d (.int .u8 0)), (.d (.int .u32 0)), (.d (.int .u32 0)), (.d (.int .u32 0)), (.d (.int .u32 0)), (.d (.int .u32 0)), (.d (.int .u32 0)), (.d (.int .u32 0)), (.d (.int .u32 0)), (.d (.int .u32 0)), (.d (.int .u32 0)), (.d (.int .u32 0)), (.d (.int .u32 0)), (.d (.int .u32 0)), (.d (.int .u32 0)), (.d (.int .u32 0)), (.d (.int .u32 0)), (.d (.int .u32 0)), (.d (.int .u32 0)), (.d (.int .u32 0)), (.d (.int .u32 0)), (.d (.int .u32 0)), (.d (.int .u32 0)), (.d (.int .u32 0)), (.d (.int .u32 0)), (.d (.int .u32 0)), (.d (.int .u32 0)), (.d (.int .u32 0)), (.d (.int .u32 0)), (.d (.int .u32 0)), (.d (.int .u32 0)), (.d (.int .u32 0)), (.d (.int .u32 0)), (.d (.int .u32 0)), (.d (.int .u32 0)), (.d (.int .u32 0)), (.d (.int .u32 0)), (.d (.int .u32 0)), (.d (.int .u32 0)), (.d (.int .u32 0)), (.d (.int .u32 0)), (.d (.int .u32 0)), (.d (.int .u32 0)), (.d (.int .u32 0)), (.d (.int .u32 0)), (.d (.int .u32 0)), (.d (.int .u32 0)), (.d (.int .u32 0)), (.d (.int .u32 0)), (.d (.int .u32 0)), (.d (.int .u32 0)), (.d (.int .u32 0)), (.d (.int .u32 0)), (.d (.int .u32 0)), (.d (.int .u32 0)), (.d (.int .u32 0)), (.d (.int .u32 0)), (.d (.int .u32 0)), (.d (.int .u32 0)), (.d (.int .u32 0)), (.d (.int .u32 0)), (.d (.int .u32 0)), (.d (.int .u32 0)), (.d (.int .u32 0)), (.d (.int .u32 0)), (.d (.int .u32 0)), (.d (.int .u32 0)), (.d (.int .u32 0)), (.d (.int .u32 0)), (.d (.int .u32 0)), (.d (.int .u32 0)), (.d (.int .u32 0)), (.d (.int .u32 0)), (.d .nilm), (.d .nilm), (.d .nilm), (.d .nilm), (.d .nilm), (.d .nilm), (.d .nilm), (.d .nilm)] [(0, 1, (.t 18)), (1, 1, (.t 19))], none⟩,
⟨(some 21), .box 86 (.t 20), none⟩,
⟨(some 4), .mv (.t 21), none⟩,
⟨(some 5), .mv (.k (.d (.int .i64 0))), none⟩] (fullB 6) false)
.ret)))
def rv : List RV := [.tmp 4, .tmp 5]
theorem c : cK Try.prog Try.f9.ntmps (Try.f9.body.getD .ret) = some s := by kernel_rfl
theorem b : Try.f9.body = some (Try.f9.body.getD .ret) := by kernel_rfl
theorem r : cRV Try.prog Try.f9.results.toList = some rv := by kernel_rfl
theorem ca : Callable Try.prog 9 = true := by kernel_rfl
theorem enter {args : List SV} {F : Hp} {k nk : Nat} {Q : SV → Hp → Prop} (hargs : SV.oks (fun n => decide (n < k)) args = true) (hF : F.ok (fun n => decide (n < k)) = true) (hN : args.length ≤ 22)
    (h : SW Try.prog 22 k s ⟨argE 0 args, F, k⟩ fun e st' => match e with | .normal => Fin k nk rv Q st' | .ret => Fin k nk rv Q st' | _ => False) : SB Try.prog 9 args F k nk Q :=
  SB.of_body Try.func9 b c r ca hargs hF hN h
end stable_New
namespace ref10_History
abbrev f : Nat := 10
def s : SCo := (.seq
(.reg [⟨(some 4), .mv (.k (.d (.int .i64 0))), none⟩] (fullB 1) false)
(.seq
(.seq
(.reg [⟨(some 7), .mv (.t 1), none⟩,
⟨(some 8), .bin .lss (.t 7) (.k (.d (.int .i64 1))), none⟩,
⟨(some 9), .mv (.t 8), none⟩,
⟨(some 10), .mv (.t 1), some (9, false)⟩,
⟨(some 11), .bin .gtr (.t 10) (.k (.d (.int .i64 8))), some (9, false)⟩,
⟨(some 12), .pick (.t 9) (.k (.d (.bool true))) (.t 11), none⟩] (fullB 6) false)
(.cond (.t 12)
 (.seq
 (.reg [⟨(some 4), .mv (.k (.d (.int .i64 2))), none⟩] (fullB 1) false)
 .ret)
 .skip))
(.seq
(.seq
 (.reg [⟨(some 5), .mv (.k (.d (.int .i64 0))), none⟩] (fullB 1) false)
 (.block 0
 (.loop
 (.seq
 (.seq
  (.reg [⟨(some 13), .mv (.t 5), none⟩,
⟨(some 14), .mv (.t 0), none⟩,
⟨(some 15), .len (.t 14), none⟩,
⟨(some 16), .bin .lss (.t 13) (.t 15), none⟩] (fullB 4) false)
  (.cond (.t 16)
  .skip
  (.exit 0)))
 (.seq
  (.block 1
  (.seq
  (.reg [⟨(some 19), .mv (.t 0), none⟩,
⟨(some 20), .mv (.t 5), none⟩,
⟨(some 21), .idxS 29 (.t 19) (.t 20), none⟩,
⟨(some 22), .load (some 29) (.t 21), none⟩,
⟨(some 23), .mv (.t 1), none⟩,
⟨(some 24), .call (.k (.fn (.func 36) [] [])) [(.t 22), (.t 23)], none⟩,
⟨(some 25), .bin .neq (.t 24) (.k (.d (.int .i64 0))), none⟩] (fullB 7) false)
  (.cond (.t 25)
  (.seq
   (.reg [⟨(some 4), .mv (.k (.d (.int .i64 5))), none⟩] (fullB 1) false)
   .ret)
  .skip)))
  (.reg [⟨(some 17), .mv (.t 5), none⟩,
⟨(some 18), .bin .add (.t 17) (.k (.d (.int .i64 1))), none⟩,
⟨(some 5), .mv (.t 18), none⟩] (fullB 3) false))))))
(.seq
 (.seq
 (.reg [⟨(some 6), .mv (.k (.d (.int .i64 0))), none⟩] (fullB 1) false)
 (.block 2
 (.loop
 (.seq
  (.seq
  (.reg [⟨(some 26), .mv (.t 6), none⟩,
⟨(some 27), .mv (.t 0), none⟩,
⟨(some 28), .len (.t 27), none⟩,
⟨(some 29), .bin .lss (.t 26) (.t 28), none⟩] (fullB 4) false)
  (.cond (.t 29)
  .skip
  (.exit 2)))
  (.seq
  (.block 3
  (.seq
  (.reg [⟨(some 32), .mv (.t 0), none⟩,
⟨(some 33), .mv (.t 0), none⟩,
⟨(some 34), .mv (.t 6), none⟩,
⟨(some 35), .idxS 29 (.t 33) (.t 34), none⟩,
⟨(some 36), .load (some 29) (.t 35), none⟩,
⟨(some 37), .call (.k (.fn (.func 37) [] [])) [(.t 32), (.t 36)], none⟩,
⟨(some 38), .not (.t 37), none⟩] (fullB 7) false)
  (.cond (.t 38)
   (.seq
   (.reg [⟨(some 4), .mv (.k (.d (.int .i64 9))), none⟩] (fullB 1) false)
   .ret)
   .skip)))
  (.reg [⟨(some 30), .mv (.t 6), none⟩,
⟨(some 31), .bin .add (.t 30) (.k (.d (.int .i64 1))), none⟩,
⟨(some 6), .mv (.t 31), none⟩] (fullB 3) false))))))
 (.seq
 (.reg [⟨(some 4), .mv (.k (.d (.int .i64 0))), none⟩] (fullB 1) false)
 .ret)))))
def rv : List RV := [.tmp 4]
theorem c : cK Try.prog Try.f10.ntmps (Try.f10.body.getD .ret) = some s := by kernel_rfl
theorem b : Try.f10.body = some (Try.f10.body.getD .ret) := by kernel_rfl
theorem r : cRV Try.prog Try.f10.results.toList = some rv := by kernel_rfl
theorem ca : Callable Try.prog 10 = true := by kernel_rfl
theorem enter {args : List SV} {F : Hp} {k nk : Nat} {Q : SV → Hp → Prop} (hargs : SV.oks (fun n => decide (n < k)) args = true) (hF : F.ok (fun n => decide (n < k)) = true) (hN : args.length ≤ 39)
    (h : SW Try.prog 39 k s ⟨argE 0 args, F, k⟩ fun e st' => match e with | .normal => Fin k nk rv Q st' | .ret => Fin k nk rv Q st' | _ => False) : SB Try.prog 10 args F k nk Q :=
  SB.of_body Try.func10 b c r ca hargs hF hN h
end ref10_History
namespace ref10_Great
abbrev f : Nat := 11
def s : SCo := (.seq
(.reg [⟨(some 2), .mv (.k (.d (.bool false))), none⟩] (fullB 1) false)
(.seq
(.reg [⟨(some 3), .mv (.k (.d (.int .i64 0))), none⟩] (fullB 1) false)
(.seq
(.seq
 (.reg [⟨(some 4), .mv (.k (.d (.int .i64 0))), none⟩] (fullB 1) false)
 (.block 0
 (.loop
 (.seq
 (.seq
  (.reg [⟨(some 5), .mv (.t 4), none⟩,
⟨(some 6), .mv (.t 0), none⟩,
⟨(some 7), .len (.t 6), none⟩,
⟨(some 8), .bin .lss (.t 5) (.t 7), none⟩,
⟨(some 9), .mv (.t 8), none⟩,
⟨(some 10), .mv (.t 4), some (9, true)⟩,
⟨(some 11), .bin .lss (.t 10) (.k (.d (.int .i64 100))), some (9, true)⟩,
⟨(some 12), .pick (.t 9) (.t 11) (.k (.d (.bool false))), none⟩] (fullB 8) false)
  (.cond (.t 12)
  .skip
  (.exit 0)))
 (.seq
  (.block 1
  (.reg [⟨(some 15), .mv (.t 3), none⟩,
⟨(some 16), .mv (.t 0), none⟩,
⟨(some 17), .mv (.t 4), none⟩,
⟨(some 18), .idxS 29 (.t 16) (.t 17), none⟩,
⟨(some 19), .fld 28 (.t 18), none⟩,
⟨(some 20), .load none (.t 19), none⟩,
⟨(some 21), .len (.t 20), none⟩,
⟨(some 22), .bin .add (.t 15) (.t 21), none⟩,
⟨(some 3), .mv (.t 22), none⟩] (fullB 9) false))
  (.reg [⟨(some 13), .mv (.t 4), none⟩,
⟨(some 14), .bin .add (.t 13) (.k (.d (.int .i64 1))), none⟩,
⟨(some 4), .mv (.t 14), none⟩] (fullB 3) false))))))
(.seq
 (.reg [⟨(some 23), .mv (.t 0), none⟩,
⟨(some 24), .len (.t 23), none⟩,
⟨(some 25), .bin .gtr (.t 24) (.k (.d (.int .i64 80))), none⟩,
⟨(some 26), .mv (.t 25), none⟩,
⟨(some 27), .mv (.t 3), some (26, false)⟩,
⟨(some 28), .bin .gtr (.t 27) (.k (.d (.int .i64 300))), some (26, false)⟩,
⟨(some 29), .pick (.t 26) (.k (.d (.bool true))) (.t 28), none⟩,
⟨(some 2), .mv (.t 29), none⟩] (fullB 8) false)
 .ret))))
def rv : List RV := [.tmp 2]
theorem c : cK Try.prog Try.f11.ntmps (Try.f11.body.getD .ret) = some s := by kernel_rfl
theorem b : Try.f11.body = some (Try.f11.body.getD .ret) := by kernel_rfl
theorem r : cRV Try.prog Try.f11.results.toList = some rv := by kernel_rfl
theorem ca : Callable Try.prog 11 = true := by kernel_rfl
theorem enter {args : List SV} {F : Hp} {k nk : Nat} {Q : SV → Hp → Prop} (hargs : SV.oks (fun n => decide (n < k)) args = true) (hF : F.ok (fun n => decide (n < k)) = true) (hN : args.length ≤ 30)
    (h : SW Try.prog 30 k s ⟨argE 0 args, F, k⟩ fun e st' => match e with | .normal => Fin k nk rv Q st' | .ret => Fin k nk rv Q st' | _ => False) : SB Try.prog 11 args F k nk Q :=
  SB.of_body Try.func11 b c r ca hargs hF hN h
end ref10_Great
namespace stable_Tracker_Has
abbrev f : Nat := 12
def s : SCo := (.seq
(.reg [⟨(some 3), .box 25 (.t 1), none⟩,
⟨(some 4), .mv (.k (.d (.int .i64 0))), none⟩] (fullB 2) false)
(.seq
(.block 0
(.seq
 (.reg [⟨(some 6), .mv (.t 0), none⟩,
⟨(some 7), .call (.k (.fn (.func 38) [] [])) [(.t 6)], none⟩,
⟨(some 5), .mv (.t 7), none⟩] (fullB 3) false)
 (.cond (.t 5)
 (.seq
 (.reg [⟨(some 4), .mv (.k (.d (.int .i64 1))), none⟩] (fullB 1) false)
 .ret)
 (.seq
 (.reg [⟨(some 9), .mv (.t 0), none⟩,
⟨(some 10), .load (some 8) (.t 3), none⟩,
⟨(some 11), .call (.k (.fn (.func 39) [] [])) [(.t 9), (.t 10)], none⟩,
⟨(some 12), .not (.t 11), none⟩,
⟨(some 8), .mv (.t 12), none⟩] (fullB 5) false)
 (.cond (.t 8)
 (.seq
  (.reg [⟨(some 4), .mv (.k (.d (.int .i64 2))), none⟩] (fullB 1) false)
  .ret)
 (.seq
  (.reg [⟨(some 14), .load (some 8) (.t 3), none⟩,
⟨(some 15), .mv (.t 0), none⟩,
⟨(some 16), .nilc (.t 15), none⟩,
⟨(some 17), .fld 2 (.t 16), none⟩,
⟨(some 18), .load (some 8) (.t 17), none⟩,
⟨(some 19), .call (.k (.fn (.func 40) [] [])) [(.t 14), (.t 18)], none⟩,
⟨(some 20), .not (.t 19), none⟩,
⟨(some 13), .mv (.t 20), none⟩] [0,
0,
2,
6,
14,
31,
63,
127] true)
  (.cond (.t 13)
  (.seq
  (.reg [⟨(some 4), .mv (.k (.d (.int .i64 9))), none⟩] (fullB 1) false)
  .ret)
  .skip)))))))
(.seq
(.reg [⟨(some 21), .mv (.t 0), none⟩,
⟨(some 22), .load (some 8) (.t 3), none⟩,
⟨(some 23), .nilc (.t 21), none⟩,
⟨(some 24), .fld 2 (.t 23), none⟩,
⟨none, .store 8 (.t 24) (.t 22), none⟩] (fullB 5) false)
(.seq
 (.reg [⟨(some 25), .mv (.t 0), none⟩,
⟨(some 26), .call (.k (.fn (.func 41) [] [])) [(.t 25)], none⟩] (fullB 2) false)
 (.seq
 (.reg [⟨(some 4), .mv (.k (.d (.int .i64 0))), none⟩] (fullB 1) false)
 .ret)))))
def rv : List RV := [.tmp 4]
theorem c : cK Try.prog Try.f12.ntmps (Try.f12.body.getD .ret) = some s := by kernel_rfl
theorem b : Try.f12.body = some (Try.f12.body.getD .ret) := by kernel_rfl
theorem r : cRV Try.prog Try.f12.results.toList = some rv := by kernel_rfl
theorem ca : Callable Try.prog 12 = true := by kernel_rfl
theorem enter {args : List SV} {F : Hp} {k nk : Nat} {Q : SV → Hp → Prop} (hargs : SV.oks (fun n => decide (n < k)) args = true) (hF : F.ok (fun n => decide (n < k)) = true) (hN : args.length ≤ 27)
    (h : SW Try.prog 27 k s ⟨argE 0 args, F, k⟩ fun e st' => match e with | .normal => Fin k nk rv Q st' | .ret => Fin k nk rv Q st' | _ => False) : SB Try.prog 12 args F k nk Q :=
  SB.of_body Try.func12 b c r ca hargs hF hN h
end stable_Tracker_Has
namespace law12_head
abbrev f : Nat := 13
def s : SCo := (.seq
(.reg [⟨(some 0), .mv (.k (.d (.bool false))), none⟩] (fullB 1) false)
(.seq
(.reg [⟨(some 13), .call (.k (.fn (.func 9) [] [])) [(.k (.d (.int .i64 2))), (.k (.d (.int .u8 0)))], none⟩,
⟨(some 12), .mv (.t 13), none⟩,
⟨(some 14), .ext 0 (.t 12), none⟩,
⟨(some 15), .ext 1 (.t 12), none⟩,
⟨(some 1), .mv (.t 14), none⟩,
⟨(some 2), .mv (.t 15), none⟩] (fullB 6) false)
(.seq
(.seq
 (.reg [⟨(some 16), .mv (.t 2), none⟩,
⟨(some 17), .bin .neq (.t 16) (.k (.d (.int .i64 0))), none⟩,
⟨(some 18), .mv (.t 17), none⟩,
⟨(some 19), .mv (.t 1), some (18, false)⟩,
⟨(some 20), .eqnil false 0 (.t 19), some (18, false)⟩,
⟨(some 21), .pick (.t 18) (.k (.d (.bool true))) (.t 20), none⟩] (fullB 6) false)
 (.cond (.t 21)
 (.seq
 (.reg [⟨(some 0), .mv (.k (.d (.bool false))), none⟩] (fullB 1) false)
 .ret)
 .skip))
(.seq
 (.reg [⟨(some 22), .mv (.t 1), none⟩,
⟨(some 23), .call (.k (.fn (.func 42) [] [])) [(.k (.d (.int .u32 2))), (.k (.d (.int .u32 0)))], none⟩,
⟨(some 24), .call (.k (.fn (.func 12) [] [])) [(.t 22), (.t 23)], none⟩,
⟨(some 25), .mv (.t 1), none⟩,
⟨(some 26), .call (.k (.fn (.func 42) [] [])) [(.k (.d (.int .u32 1))), (.k (.d (.int .u32 0)))], none⟩,
⟨(some 27), .call (.k (.fn (.func 15) [] [])) [(.t 25), (.k (.d (.int .u8 1))), (.t 26)], none⟩,
⟨(some 28), .mv (.t 1), none⟩,
⟨(some 29), .call (.k (.fn (.func 16) [] [])) [(.t 28)], none⟩,
⟨(some 5), .alloc 25 [(.d (.int .u32 0)), (.d (.int .u32 0)), (.d (.int .u32 0)), (.d (.int .u32 0)), (.d (.int .u32 0)), (.d (.int .u32 0)), (.d (.int .u32 0)), (.d (.int .u32 0))], none⟩,
⟨(some 3), .mv (.t 24), none⟩,
⟨(some 4), .mv (.t 27), none⟩,
⟨none, .store 8 (.t 5) (.t 29), none⟩] (fullB 12) false)
 (.seq
 (.reg [⟨(some 30), .mv (.t 1), none⟩,
⟨(some 31), .call (.k (.fn (.func 42) [] [])) [(.k (.d (.int .u32 2))), (.k (.d (.int .u32 1)))], none⟩,
⟨(some 32), .call (.k (.fn (.func 15) [] [])) [(.t 30), (.k (.d (.int .u8 1))), (.t 31)], none⟩,
⟨(some 33), .mv (.t 1), none⟩,
⟨(some 34), .call (.k (.fn (.func 16) [] [])) [(.t 33)], none⟩,
⟨(some 35), .mv (.t 1), none⟩,
⟨(some 36), .call (.k (.fn (.func 27) [] [])) [(.t 35)], none⟩,
⟨(some 7), .alloc 25 [(.d (.int .u32 0)), (.d (.int .u32 0)), (.d (.int .u32 0)), (.d (.int .u32 0)), (.d (.int .u32 0)), (.d (.int .u32 0)), (.d (.int .u32 0)), (.d (.int .u32 0))], none⟩,
⟨(some 6), .mv (.t 32), none⟩,
⟨none, .store 8 (.t 7) (.t 34), none⟩,
⟨(some 8), .mv (.t 36), none⟩] (fullB 11) false)
 (.seq
 (.reg [⟨(some 37), .mv (.t 1), none⟩,
⟨(some 38), .call (.k (.fn (.func 42) [] [])) [(.k (.d (.int .u32 2))), (.k (.d (.int .u32 1)))], none⟩,
⟨(some 39), .call (.k (.fn (.func 12) [] [])) [(.t 37), (.t 38)], none⟩,
⟨(some 40), .mv (.t 1), none⟩,
⟨(some 41), .call (.k (.fn (.func 16) [] [])) [(.t 40)], none⟩,
⟨(some 42), .mv (.t 1), none⟩,
⟨(some 43), .call (.k (.fn (.func 27) [] [])) [(.t 42)], none⟩,
⟨(some 10), .alloc 25 [(.d (.int .u32 0)), (.d (.int .u32 0)), (.d (.int .u32 0)), (.d (.int .u32 0)), (.d (.int .u32 0)), (.d (.int .u32 0)), (.d (.int .u32 0)), (.d (.int .u32 0))], none⟩,
⟨(some 9), .mv (.t 39), none⟩,
⟨none, .store 8 (.t 10) (.t 41), none⟩,
⟨(some 11), .mv (.t 43), none⟩] (fullB 11) false)
 (.seq
 (.reg (⟨(some 44), .mv (.t 3), none⟩ ::
⟨(some 45), .bin .eql (.t 44) (.k (.d (.int .i64 0))), none⟩ ::
⟨(some 46), .mv (.t 45), none⟩ ::
⟨(some 47), .mv (.t 4), some (46, true)⟩ ::
⟨(some 48), .bin .eql (.t 47) (.k (.d (.int .i64 0))), some (46, true)⟩ ::
⟨(some 49), .pick (.t 46) (.t 48) (.k (.d (.bool false))), none⟩ ::
⟨(some 50), .mv (.t 49), none⟩ ::
⟨(some 51), .load (some 8) (.t 5), some (50, true)⟩ ::
⟨(some 52), .call (.k (.fn (.func 42) [] [])) [(.k (.d (.int .u32 1))), (.k (.d (.int .u32 0)))], some (50, true)⟩ ::
⟨(some 53), .eqv false [true, true, true, true, true, true, true, true] (.t 51) (.t 52), some (50, true)⟩ ::
⟨(some 54), .pick (.t 50) (.t 53) (.k (.d (.bool false))), none⟩ ::
⟨(some 55), .mv (.t 54), none⟩ ::
⟨(some 56), .mv (.t 6), some (55, true)⟩ ::
⟨(some 57), .bin .eql (.t 56) (.k (.d (.int .i64 0))), some (55, true)⟩ ::
⟨(some 58), .pick (.t 55) (.t 57) (.k (.d (.bool false))), none⟩ ::
⟨(some 59), .mv (.t 58), none⟩ ::
⟨(some 60), .load (some 8) (.t 7), some (59, true)⟩ ::
⟨(some 61), .call (.k (.fn (.func 42) [] [])) [(.k (.d (.int .u32 1))), (.k (.d (.int .u32 0)))], some (59, true)⟩ ::
⟨(some 62), .eqv false [true, true, true, true, true, true, true, true] (.t 60) (.t 61), some (59, true)⟩ ::
⟨(some 63), .pick (.t 59) (.t 62) (.k (.d (.bool false))), none⟩ ::
⟨(some 64), .mv (.t 63), none⟩ ::
⟨(some 65), .mv (.t 8), some (64, true)⟩ ::
⟨(some 66), .bin .eql (.t 65) (.k (.d (.int .i64 1))), some (64, true)⟩ ::
⟨(some 67), .pick (.t 64) (.t 66) (.k (.d (.bool false))), none⟩ ::
⟨(some 68), .mv (.t 67), none⟩ ::
⟨(some 69), .mv (.t 9), some (68, true)⟩ ::
⟨(some 70), .bin .eql (.t 69) (.k (.d (.int .i64 0))), some (68, true)⟩ ::
⟨(some 71), .pick (.t 68) (.t 70) (.k (.d (.bool false))), none⟩ ::
⟨(some 72), .mv (.t 71), none⟩ ::
⟨(some 73), .load (some 8) (.t 10), some (72, true)⟩ ::
⟨(some 74), .call (.k (.fn (.func 42) [] [])) [(.k (.d (.int .u32 2))), (.k (.d (.int .u32 1)))], some (72, true)⟩ ::
⟨(some 75), .eqv false [true, true, true, true, true, true, true, true] (.t 73) (.t 74), some (72, true)⟩ ::
⟨(some 76), .pick (.t 72) (.t 75) (.k (.d (.bool false))), none⟩ ::
⟨(some 77), .mv (.t 76), none⟩ ::
⟨(some 78), .mv (.t 11), some (77, true)⟩ ::
⟨(some 79), .bin .eql (.t 78) (.k (.d (.int .i64 0))), some (77, true)⟩ ::
⟨(some 80), .pick (.t 77) (.t 79) (.k (.d (.bool false))), none⟩ ::
⟨(some 81), .mv (.t 80), none⟩ ::
⟨(some 82), .mv (.t 1), some (81, true)⟩ ::
⟨(some 83), .call (.k (.fn (.func 42) [] [])) [(.k (.d (.int .u32 1))), (.k (.d (.int .u32 1)))], some (81, true)⟩ ::
⟨(some 84), .call (.k (.fn (.func 12) [] [])) [(.t 82), (.t 83)], some (81, true)⟩ ::
⟨(some 85), .bin .eql (.t 84) (.k (.d (.int .i64 9))), some (81, true)⟩ ::
⟨(some 86), .pick (.t 81) (.t 85) (.k (.d (.bool false))), none⟩ ::
⟨(some 87), .mv (.t 86), none⟩ ::
⟨(some 88), .mv (.t 1), some (87, true)⟩ ::
⟨(some 89), .call (.k (.fn (.func 42) [] [])) [(.k (.d (.int .u32 0))), (.k (.d (.int .u32 0)))], some (87, true)⟩ ::
⟨(some 90), .call (.k (.fn (.func 15) [] [])) [(.t 88), (.k (.d (.int .u8 2))), (.t 89)], some (87, true)⟩ ::
⟨(some 91), .bin .eql (.t 90) (.k (.d (.int .i64 2))), some (87, true)⟩ ::
⟨(some 92), .pick (.t 87) (.t 91) (.k (.d (.bool false))), none⟩ ::
⟨(some 93), .mv (.t 92), none⟩ ::
⟨(some 94), .mv (.t 1), some (93, true)⟩ ::
⟨(some 95), .call (.k (.fn (.func 42) [] [])) [(.k (.d (.int .u32 9))), (.k (.d (.int .u32 0)))], some (93, true)⟩ ::
⟨(some 96), .call (.k (.fn (.func 15) [] [])) [(.t 94), (.k (.d (.int .u8 0))), (.t 95)], some (93, true)⟩ ::
⟨(some 97), .bin .eql (.t 96) (.k (.d (.int .i64 9))), some (93, true)⟩ ::
⟨(some 98), .pick (.t 93) (.t 97) (.k (.d (.bool false))), none⟩ ::
⟨(some 0), .mv (.t 98), none⟩ :: []) (0 ::
1 ::
3 ::
7 ::
15 ::
31 ::
63 ::
127 ::
127 ::
511 ::
1023 ::
2047 ::
4095 ::
8191 ::
16383 ::
32767 ::
65535 ::
65535 ::
262143 ::
524287 ::
1048575 ::
2097151 ::
4194303 ::
8388607 ::
16777215 ::
33554431 ::
67108863 ::
134217727 ::
268435455 ::
536870911 ::
536870911 ::
2147483647 ::
4294967295 ::
8589934591 ::
17179869183 ::
34359738367 ::
68719476735 ::
137438953471 ::
274877906943 ::
274877906943 ::
1099511627775 ::
2199023255551 ::
4398046511103 ::
8796093022207 ::
17592186044415 ::
17592186044415 ::
70368744177663 ::
140737488355327 ::
281474976710655 ::
562949953421311 ::
1125899906842623 ::
1125899906842623 ::
4503599627370495 ::
9007199254740991 ::
18014398509481983 ::
36028797018963967 :: []) true)
 .ret)))))))
def rv : List RV := [.tmp 0]
theorem c : cK Try.prog Try.f13.ntmps (Try.f13.body.getD .ret) = some s := by kernel_rfl
theorem b : Try.f13.body = some (Try.f13.body.getD .ret) := by kernel_rfl
theorem r : cRV Try.prog Try.f13.results.toList = some rv := by kernel_rfl
theorem ca : Callable Try.prog 13 = true := by kernel_rfl
theorem enter {args : List SV} {F : Hp} {k nk : Nat} {Q : SV → Hp → Prop} (hargs : SV.oks (fun n => decide (n < k)) args = true) (hF : F.ok (fun n => decide (n < k)) = true) (hN : args.length ≤ 99)
    (h : SW Try.prog 99 k s ⟨argE 0 args, F, k⟩ fun e st' => match e with | .normal => Fin k nk rv Q st' | .ret => Fin k nk rv Q st' | _ => False) : SB Try.prog 13 args F k nk Q :=
  SB.of_body Try.func13 b c r ca hargs hF hN h
end law12_head
namespace ref10_Known
abbrev f : Nat := 14
def s : SCo := (.seq
(.reg [⟨(some 2), .alloc 25 [(.d (.int .u32 0)), (.d (.int .u32 0)), (.d (.int .u32 0)), (.d (.int .u32 0)), (.d (.int .u32 0)), (.d (.int .u32 0)), (.d (.int .u32 0)), (.d (.int .u32 0))], none⟩] (fullB 1) false)
(.seq
(.reg [⟨(some 3), .alloc 25 [(.d (.int .u32 0)), (.d (.int .u32 0)), (.d (.int .u32 0)), (.d (.int .u32 0)), (.d (.int .u32 0)), (.d (.int .u32 0)), (.d (.int .u32 0)), (.d (.int .u32 0))], none⟩] (fullB 1) false)
(.seq
(.seq
 (.reg [⟨(some 4), .mv (.k (.d (.int .i64 0))), none⟩] (fullB 1) false)
 (.block 0
 (.loop
 (.seq
 (.seq
  (.reg [⟨(some 5), .mv (.t 4), none⟩,
⟨(some 6), .mv (.t 0), none⟩,
⟨(some 7), .len (.t 6), none⟩,
⟨(some 8), .bin .lss (.t 5) (.t 7), none⟩] (fullB 4) false)
  (.cond (.t 8)
  .skip
  (.exit 0)))
 (.seq
  (.block 1
  (.seq
  (.reg (⟨(some 11), .mv (.t 0), none⟩ ::
⟨(some 12), .mv (.t 4), none⟩ ::
⟨(some 13), .idxS 29 (.t 11) (.t 12), none⟩ ::
⟨(some 14), .fld 0 (.t 13), none⟩ ::
⟨(some 15), .fld 0 (.t 14), none⟩ ::
⟨(some 16), .load none (.t 15), none⟩ ::
⟨(some 17), .bin .lss (.t 16) (.k (.d (.int .u8 8))), none⟩ ::
⟨(some 18), .mv (.t 17), none⟩ ::
⟨(some 19), .mv (.t 0), some (18, true)⟩ ::
⟨(some 20), .mv (.t 4), some (18, true)⟩ ::
⟨(some 21), .idxS 29 (.t 19) (.t 20), some (18, true)⟩ ::
⟨(some 22), .fld 0 (.t 21), some (18, true)⟩ ::
⟨(some 23), .fld 1 (.t 22), some (18, true)⟩ ::
⟨(some 24), .load none (.t 23), some (18, true)⟩ ::
⟨(some 25), .mv (.t 0), some (18, true)⟩ ::
⟨(some 26), .mv (.t 4), some (18, true)⟩ ::
⟨(some 27), .idxS 29 (.t 25) (.t 26), some (18, true)⟩ ::
⟨(some 28), .fld 0 (.t 27), some (18, true)⟩ ::
⟨(some 29), .fld 0 (.t 28), some (18, true)⟩ ::
⟨(some 30), .load none (.t 29), some (18, true)⟩ ::
⟨(some 31), .idxA 8 1 (.t 3) (.t 30), some (18, true)⟩ ::
⟨(some 32), .load none (.t 31), some (18, true)⟩ ::
⟨(some 33), .bin .gtr (.t 24) (.t 32), some (18, true)⟩ ::
⟨(some 34), .pick (.t 18) (.t 33) (.k (.d (.bool false))), none⟩ :: []) (0 ::
0 ::
3 ::
7 ::
15 ::
31 ::
63 ::
127 ::
255 ::
255 ::
1023 ::
2047 ::
4095 ::
8191 ::
255 ::
255 ::
49407 ::
114943 ::
246015 ::
508159 ::
1032447 ::
2081023 ::
4194303 ::
8388607 :: []) true)
  (.cond (.t 34)
  (.reg [⟨(some 35), .mv (.t 0), none⟩,
⟨(some 36), .mv (.t 4), none⟩,
⟨(some 37), .idxS 29 (.t 35) (.t 36), none⟩,
⟨(some 38), .fld 0 (.t 37), none⟩,
⟨(some 39), .fld 0 (.t 38), none⟩,
⟨(some 40), .load none (.t 39), none⟩,
⟨(some 41), .mv (.t 0), none⟩,
⟨(some 42), .mv (.t 4), none⟩,
⟨(some 43), .idxS 29 (.t 41) (.t 42), none⟩,
⟨(some 44), .fld 0 (.t 43), none⟩,
⟨(some 45), .fld 1 (.t 44), none⟩,
⟨(some 46), .load none (.t 45), none⟩,
⟨(some 47), .idxA 8 1 (.t 3) (.t 40), none⟩,
⟨none, .store 1 (.t 47) (.t 46), none⟩] [0,
0,
3,
7,
15,
31,
0,
0,
192,
448,
960,
1984,
4095,
8191] true)
  .skip)))
  (.reg [⟨(some 9), .mv (.t 4), none⟩,
⟨(some 10), .bin .add (.t 9) (.k (.d (.int .i64 1))), none⟩,
⟨(some 4), .mv (.t 10), none⟩] (fullB 3) false))))))
(.seq
 (.reg [⟨(some 48), .load (some 8) (.t 3), none⟩,
⟨none, .store 8 (.t 2) (.t 48), none⟩] (fullB 2) false)
 .ret))))
def rv : List RV := [.cell 2 (some 8)]
theorem c : cK Try.prog Try.f14.ntmps (Try.f14.body.getD .ret) = some s := by kernel_rfl
theorem b : Try.f14.body = some (Try.f14.body.getD .ret) := by kernel_rfl
theorem r : cRV Try.prog Try.f14.results.toList = some rv := by kernel_rfl
theorem ca : Callable Try.prog 14 = true := by kernel_rfl
theorem enter {args : List SV} {F : Hp} {k nk : Nat} {Q : SV → Hp → Prop} (hargs : SV.oks (fun n => decide (n < k)) args = true) (hF : F.ok (fun n => decide (n < k)) = true) (hN : args.length ≤ 49)
    (h : SW Try.prog 49 k s ⟨argE 0 args, F, k⟩ fun e st' => match e with | .normal => Fin k nk rv Q st' | .ret => Fin k nk rv Q st' | _ => False) : SB Try.prog 14 args F k nk Q :=
  SB.of_body Try.func14 b c r ca hargs hF hN h
end ref10_Known
namespace stable_Tracker_Hear
abbrev f : Nat := 15
def s : SCo := (.seq
(.reg [⟨(some 5), .box 25 (.t 2), none⟩,
⟨(some 6), .mv (.k (.d (.int .i64 0))), none⟩] (fullB 2) false)
(.seq
(.block 0
(.seq
 (.reg [⟨(some 8), .mv (.t 0), none⟩,
⟨(some 9), .call (.k (.fn (.func 38) [] [])) [(.t 8)], none⟩,
⟨(some 7), .mv (.t 9), none⟩] (fullB 3) false)
 (.cond (.t 7)
 (.seq
 (.reg [⟨(some 6), .mv (.k (.d (.int .i64 1))), none⟩] (fullB 1) false)
 .ret)
 (.seq
 (.reg [⟨(some 11), .mv (.t 1), none⟩,
⟨(some 12), .conv .i64 (.t 11), none⟩,
⟨(some 13), .mv (.t 0), none⟩,
⟨(some 14), .nilc (.t 13), none⟩,
⟨(some 15), .fld 0 (.t 14), none⟩,
⟨(some 16), .load none (.t 15), none⟩,
⟨(some 17), .bin .geq (.t 12) (.t 16), none⟩,
⟨(some 18), .mv (.t 17), none⟩,
⟨(some 19), .mv (.t 0), some (18, false)⟩,
⟨(some 20), .load (some 8) (.t 5), some (18, false)⟩,
⟨(some 21), .call (.k (.fn (.func 39) [] [])) [(.t 19), (.t 20)], some (18, false)⟩,
⟨(some 22), .not (.t 21), some (18, false)⟩,
⟨(some 23), .pick (.t 18) (.k (.d (.bool true))) (.t 22), none⟩,
⟨(some 10), .mv (.t 23), none⟩] (fullB 14) false)
 (.cond (.t 10)
 (.seq
  (.reg [⟨(some 6), .mv (.k (.d (.int .i64 2))), none⟩] (fullB 1) false)
  .ret)
 (.seq
  (.reg (⟨(some 25), .mv (.t 1), none⟩ ::
⟨(some 26), .mv (.t 0), none⟩ ::
⟨(some 27), .nilc (.t 26), none⟩ ::
⟨(some 28), .fld 1 (.t 27), none⟩ ::
⟨(some 29), .load none (.t 28), none⟩ ::
⟨(some 30), .bin .eql (.t 25) (.t 29), none⟩ ::
⟨(some 31), .mv (.t 30), none⟩ ::
⟨(some 32), .mv (.t 0), some (31, true)⟩ ::
⟨(some 33), .nilc (.t 32), some (31, true)⟩ ::
⟨(some 34), .fld 2 (.t 33), some (31, true)⟩ ::
⟨(some 35), .load (some 8) (.t 34), some (31, true)⟩ ::
⟨(some 36), .load (some 8) (.t 5), some (31, true)⟩ ::
⟨(some 37), .call (.k (.fn (.func 40) [] [])) [(.t 35), (.t 36)], some (31, true)⟩ ::
⟨(some 38), .not (.t 37), some (31, true)⟩ ::
⟨(some 39), .pick (.t 31) (.t 38) (.k (.d (.bool false))), none⟩ ::
⟨(some 24), .mv (.t 39), none⟩ :: []) (0 ::
0 ::
2 ::
6 ::
14 ::
31 ::
63 ::
127 ::
255 ::
511 ::
1023 ::
127 ::
4095 ::
8191 ::
16383 ::
32767 :: []) true)
  (.cond (.t 24)
  (.seq
  (.reg [⟨(some 6), .mv (.k (.d (.int .i64 9))), none⟩] (fullB 1) false)
  .ret)
  (.seq
  (.reg [⟨(some 41), .mv (.t 1), none⟩,
⟨(some 42), .mv (.t 0), none⟩,
⟨(some 43), .nilc (.t 42), none⟩,
⟨(some 44), .fld 1 (.t 43), none⟩,
⟨(some 45), .load none (.t 44), none⟩,
⟨(some 46), .bin .eql (.t 41) (.t 45), none⟩,
⟨(some 40), .mv (.t 46), none⟩] (fullB 7) false)
  (.cond (.t 40)
  (.seq
   (.reg [⟨(some 6), .mv (.k (.d (.int .i64 0))), none⟩] (fullB 1) false)
   .ret)
  .skip)))))))))
(.seq
(.seq
 (.reg [⟨(some 47), .mv (.t 0), none⟩,
⟨(some 48), .mv (.t 1), none⟩,
⟨(some 49), .nilc (.t 47), none⟩,
⟨(some 50), .fld 74 (.t 49), none⟩,
⟨(some 51), .idxA 8 1 (.t 50) (.t 48), none⟩,
⟨(some 52), .load none (.t 51), none⟩,
⟨(some 53), .eqnil false 1 (.t 52), none⟩] (fullB 7) false)
 (.cond (.t 53)
 (.reg [⟨(some 54), .mv (.t 0), none⟩,
⟨(some 55), .mv (.t 1), none⟩,
⟨(some 56), .mkm, none⟩,
⟨(some 57), .nilc (.t 54), none⟩,
⟨(some 58), .fld 74 (.t 57), none⟩,
⟨(some 59), .idxA 8 1 (.t 58) (.t 55), none⟩,
⟨none, .store 1 (.t 59) (.t 56), none⟩] (fullB 7) false)
 .skip))
(.seq
 (.reg [⟨(some 60), .mv (.t 0), none⟩,
⟨(some 61), .mv (.t 1), none⟩,
⟨(some 62), .nilc (.t 60), none⟩,
⟨(some 63), .fld 74 (.t 62), none⟩,
⟨(some 64), .idxA 8 1 (.t 63) (.t 61), none⟩,
⟨(some 65), .load none (.t 64), none⟩,
⟨(some 66), .load (some 8) (.t 5), none⟩,
⟨none, .mset [true, true, true, true, true, true, true, true] true (.t 65) (.t 66) (.k (.d (.int .i64 1))), none⟩] [0,
0,
1,
5,
15,
31,
0,
127] true)
 (.seq
 (.reg [⟨(some 67), .mv (.t 0), none⟩,
⟨(some 68), .call (.k (.fn (.func 41) [] [])) [(.t 67)], none⟩] (fullB 2) false)
 (.seq
 (.reg [⟨(some 6), .mv (.k (.d (.int .i64 0))), none⟩] (fullB 1) false)
 .ret))))))
def rv : List RV := [.tmp 6]
theorem c : cK Try.prog Try.f15.ntmps (Try.f15.body.getD .ret) = some s := by kernel_rfl
theorem b : Try.f15.body = some (Try.f15.body.getD .ret) := by kernel_rfl
theorem r : cRV Try.prog Try.f15.results.toList = some rv := by kernel_rfl
theorem ca : Callable Try.prog 15 = true := by kernel_rfl
theorem enter {args : List SV} {F : Hp} {k nk : Nat} {Q : SV → Hp → Prop} (hargs : SV.oks (fun n => decide (n < k)) args = true) (hF : F.ok (fun n => decide (n < k)) = true) (hN : args.length ≤ 69)
    (h : SW Try.prog 69 k s ⟨argE 0 args, F, k⟩ fun e st' => match e with | .normal => Fin k nk rv Q st' | .ret => Fin k nk rv Q st' | _ => False) : SB Try.prog 15 args F k nk Q :=
  SB.of_body Try.func15 b c r ca hargs hF hN h
end stable_Tracker_Hear
namespace stable_Tracker_Stable
abbrev f : Nat := 16
def s : SCo := (.seq
(.reg [⟨(some 2), .alloc 25 [(.d (.int .u32 0)), (.d (.int .u32 0)), (.d (.int .u32 0)), (.d (.int .u32 0)), (.d (.int .u32 0)), (.d (.int .u32 0)), (.d (.int .u32 0)), (.d (.int .u32 0))], none⟩] (fullB 1) false)
(.seq
(.seq
(.reg [⟨(some 3), .mv (.t 0), none⟩,
⟨(some 4), .call (.k (.fn (.func 38) [] [])) [(.t 3)], none⟩] (fullB 2) false)
(.cond (.t 4)
 (.seq
 (.reg [⟨(some 5), .bld [(.d (.int .u32 0)), (.d (.int .u32 0)), (.d (.int .u32 0)), (.d (.int .u32 0)), (.d (.int .u32 0)), (.d (.int .u32 0)), (.d (.int .u32 0)), (.d (.int .u32 0))] [], none⟩,
⟨none, .store 8 (.t 2) (.t 5), none⟩] (fullB 2) false)
 .ret)
 .skip))
(.seq
(.reg [⟨(some 6), .mv (.t 0), none⟩,
⟨(some 7), .nilc (.t 6), none⟩,
⟨(some 8), .fld 10 (.t 7), none⟩,
⟨(some 9), .mv (.t 0), none⟩,
⟨(some 10), .nilc (.t 9), none⟩,
⟨(some 11), .fld 0 (.t 10), none⟩,
⟨(some 12), .load none (.t 11), none⟩,
⟨(some 13), .slcA 8 8 (.t 8) none (some (.t 12)), none⟩,
⟨(some 14), .call (.k (.fn (.func 43) [] [])) [(.t 13)], none⟩,
⟨none, .store 8 (.t 2) (.t 14), none⟩] [0,
1,
3,
0,
8,
24,
56,
127,
255,
511] true)
.ret)))
def rv : List RV := [.cell 2 (some 8)]
theorem c : cK Try.prog Try.f16.ntmps (Try.f16.body.getD .ret) = some s := by kernel_rfl
theorem b : Try.f16.body = some (Try.f16.body.getD .ret) := by kernel_rfl
theorem r : cRV Try.prog Try.f16.results.toList = some rv := by kernel_rfl
theorem ca : Callable Try.prog 16 = true := by kernel_rfl
theorem enter {args : List SV} {F : Hp} {k nk : Nat} {Q : SV → Hp → Prop} (hargs : SV.oks (fun n => decide (n < k)) args = true) (hF : F.ok (fun n => decide (n < k)) = true) (hN : args.length ≤ 15)
    (h : SW Try.prog 15 k s ⟨argE 0 args, F, k⟩ fun e st' => match e with | .normal => Fin k nk rv Q st' | .ret => Fin k nk rv Q st' | _ => False) : SB Try.prog 16 args F k nk Q :=
  SB.of_body Try.func16 b c r ca hargs hF hN h
end stable_Tracker_Stable
namespace ref04_Covers
abbrev f : Nat := 17
def s : SCo := (.seq
(.reg [⟨(some 2), .box 25 (.t 0), none⟩,
⟨(some 3), .box 37 (.t 1), none⟩,
⟨(some 4), .mv (.k (.d (.bool false))), none⟩] (fullB 3) false)
(.seq
(.reg [⟨(some 5), .load (some 2) (.t 3), none⟩,
⟨(some 6), .call (.k (.fn (.func 44) [] [])) [(.t 5)], none⟩,
⟨(some 7), .mv (.t 6), none⟩,
⟨(some 8), .fld 1 (.t 3), some (7, true)⟩,
⟨(some 9), .load none (.t 8), some (7, true)⟩,
⟨(some 10), .fld 0 (.t 3), some (7, true)⟩,
⟨(some 11), .load none (.t 10), some (7, true)⟩,
⟨(some 12), .idxA 8 1 (.t 2) (.t 11), some (7, true)⟩,
⟨(some 13), .load none (.t 12), some (7, true)⟩,
⟨(some 14), .bin .leq (.t 9) (.t 13), some (7, true)⟩,
⟨(some 15), .pick (.t 7) (.t 14) (.k (.d (.bool false))), none⟩,
⟨(some 4), .mv (.t 15), none⟩] [0,
1,
3,
7,
15,
7,
39,
103,
231,
511,
1023,
2047] true)
.ret))
def rv : List RV := [.tmp 4]
theorem c : cK Try.prog Try.f17.ntmps (Try.f17.body.getD .ret) = some s := by kernel_rfl
theorem b : Try.f17.body = some (Try.f17.body.getD .ret) := by kernel_rfl
theorem r : cRV Try.prog Try.f17.results.toList = some rv := by kernel_rfl
theorem ca : Callable Try.prog 17 = true := by kernel_rfl
theorem enter {args : List SV} {F : Hp} {k nk : Nat} {Q : SV → Hp → Prop} (hargs : SV.oks (fun n => decide (n < k)) args = true) (hF : F.ok (fun n => decide (n < k)) = true) (hN : args.length ≤ 16)
    (h : SW Try.prog 16 k s ⟨argE 0 args, F, k⟩ fun e st' => match e with | .normal => Fin k nk rv Q st' | .ret => Fin k nk rv Q st' | _ => False) : SB Try.prog 17 args F k nk Q :=
  SB.of_body Try.func17 b c r ca hargs hF hN h
end ref04_Covers
namespace ref04_Above
abbrev f : Nat := 18
def s : SCo := (.seq
(.reg [⟨(some 2), .box 25 (.t 0), none⟩,
⟨(some 3), .box 25 (.t 1), none⟩,
⟨(some 4), .mv (.k (.d (.bool false))), none⟩] (fullB 3) false)
(.seq
(.seq
(.reg [⟨(some 5), .mv (.k (.d (.int .i64 0))), none⟩] (fullB 1) false)
(.block 0
 (.loop
 (.seq
 (.seq
 (.reg [⟨(some 6), .mv (.t 5), none⟩,
⟨(some 7), .bin .lss (.t 6) (.k (.d (.int .i64 8))), none⟩] (fullB 2) false)
 (.cond (.t 7)
  .skip
  (.exit 0)))
 (.seq
 (.block 1
  (.seq
  (.reg [⟨(some 10), .mv (.t 5), none⟩,
⟨(some 11), .idxA 8 1 (.t 2) (.t 10), none⟩,
⟨(some 12), .load none (.t 11), none⟩,
⟨(some 13), .mv (.t 5), none⟩,
⟨(some 14), .idxA 8 1 (.t 3) (.t 13), none⟩,
⟨(some 15), .load none (.t 14), none⟩,
⟨(some 16), .bin .lss (.t 12) (.t 15), none⟩] [0,
1,
3,
0,
8,
24,
63] true)
  (.cond (.t 16)
  (.seq
  (.reg [⟨(some 4), .mv (.k (.d (.bool false))), none⟩] (fullB 1) false)
  .ret)
  .skip)))
 (.reg [⟨(some 8), .mv (.t 5), none⟩,
⟨(some 9), .bin .add (.t 8) (.k (.d (.int .i64 1))), none⟩,
⟨(some 5), .mv (.t 9), none⟩] (fullB 3) false))))))
(.seq
(.reg [⟨(some 4), .mv (.k (.d (.bool true))), none⟩] (fullB 1) false)
.ret)))
def rv : List RV := [.tmp 4]
theorem c : cK Try.prog Try.f18.ntmps (Try.f18.body.getD .ret) = some s := by kernel_rfl
theorem b : Try.f18.body = some (Try.f18.body.getD .ret) := by kernel_rfl
theorem r : cRV Try.prog Try.f18.results.toList = some rv := by kernel_rfl
theorem ca : Callable Try.prog 18 = true := by kernel_rfl
theorem enter {args : List SV} {F : Hp} {k nk : Nat} {Q : SV → Hp → Prop} (hargs : SV.oks (fun n => decide (n < k)) args = true) (hF : F.ok (fun n => decide (n < k)) = true) (hN : args.length ≤ 17)
    (h : SW Try.prog 17 k s ⟨argE 0 args, F, k⟩ fun e st' => match e with | .normal => Fin k nk rv Q st' | .ret => Fin k nk rv Q st' | _ => False) : SB Try.prog 18 args F k nk Q :=
  SB.of_body Try.func18 b c r ca hargs hF hN h
end ref04_Above
namespace law16_head
end law16_head
namespace ref10_Sort
end ref10_Sort
namespace tree_New
end tree_New
namespace tree_Tree_Get
end tree_Tree_Get
namespace tree_Tree_Chain
end tree_Tree_Chain
namespace ref03_Same
end ref03_Same
namespace stable_Tracker_Copy
abbrev f : Nat := 25
def s : SCo := (.seq
(.reg [⟨(some 2), .mv (.k (.d .nilp)), none⟩] (fullB 1) false)
(.seq
(.seq
(.reg [⟨(some 6), .mv (.t 0), none⟩,
⟨(some 7), .call (.k (.fn (.func 38) [] [])) [(.t 6)], none⟩] (fullB 2) false)
(.cond (.t 7)
 (.seq
 (.reg [⟨(some 2), .mv (.k (.d .nilp)), none⟩] (fullB 1) false)
 .ret)
 .skip))
(.seq
(.reg [⟨(some 8), .mv (.t 0), none⟩,
⟨(some 9), .nilc (.t 8), none⟩,
⟨(some 10), .load (some 82) (.t 9), none⟩,
⟨(some 3), .alloc 86 [(.d (.int .i64 0)), (.d (.int .u8 0)), (.d (.int .u32 0)), (.d (.int .u32 0)), (.d (.int .u32 0)), (.d (.int .u32 0)), (.d (.int .u32 0)), (.d (.int .u32 0)), (.d (.int .u32 0)), (.d (.int .u32 0)), (.d (.int .u32 0)), (.d (.int .u32 0)), (.d (.int .u32 0)), (.d (.int .u32 0)), (.d (.int .u32 0)), (.d (.int .u32 0)), (.d (.int .u32 0)), (.d (.int .u32 0)), (.d (.int .u32 0)), (.d (.int .u32 0)), (.d (.int .u32 0)), (.d (.int .u32 0)), (.d (.int .u32 0)), (.d (.int .u32 0)), (.d (.int .u32 0)), (.d (.int .u32 0)), (.d (.int .u32 0)), (.d (.int .u32 0)), (.d (.int .u32 0)), (.d (.int .u32 0)), (.d (.int .u32 0)), (.d (.int .u32 0)), (.d (.int .u32 0)), (.d (.int .u32 0)), (.d (.int .u32 0)), (.d (.int .u32 0)), (.d (.int .u32 0)), (.d (.int .u32 0)), (.d (.int .u32 0)), (.d (.int .u32 0)), (.d (.int .u32 0)), (.d (.int .u32 0)), (.d (.int .u32 0)), (.d (.int .u32 0)), (.d (.int .u32 0)), (.d (.int .u32 0)), (.d (.int .u32 0)), (.d (.int .u32 0)), (.d (.int .u32 0)), (.d (.int .u32 0)), (.d (.int .u32 0)), (.d (.int .u32 0)), (.d (.int .u32 0)), (.d (.int .u32 0)), (.d (.int .u32 0)), (.d (.int .u32 0)), (.d (.int .u32 0)), (.d (.int .u32 0)), (.d (.int .u32 0)), (.d (.int .u32 0)), (.d (.int .u32 0)), (.d (.int .u32 0)), (.d (.int .u32 0)), (.d (.int .u32 0)), (.d (.int .u32 0)), (.d (.int .u32 0)), (.d (.int .u32 0)), (.d (.int .u32 0)), (.d (.int .u32 0)), (.d (.int .u32 0)), (.d (.int .u32 0)), (.d (.int .u32 0)), (.d (.int .u32 0)), (.d (.int .u32 0)), (.d .nilm), (.d .nilm), (.d .nilm), (.d .nilm), (.d .nilm), (.d .nilm), (.d .nilm), (.d .nilm)], none⟩,
⟨none, .store 82 (.t 3) (.t 10), none⟩] (fullB 5) false)
(.seq
 (.seq
 (.reg [⟨(some 11), .mv (.t 0), none⟩,
⟨(some 12), .nilc (.t 11), none⟩,
⟨(some 13), .fld 74 (.t 12), none⟩,
⟨(some 14), .load (some 8) (.t 13), none⟩,
⟨(some 15), .mv (.k (.d (.int .i64 0))), none⟩] (fullB 5) false)
 (.block 0
 (.loop
 (.seq
  (.reg [⟨(some 16), .bin .lss (.t 15) (.k (.d (.int .i64 8))), none⟩] (fullB 1) false)
  (.seq
  (.cond (.t 16)
  .skip
  (.exit 0))
  (.seq
  (.block 1
  (.seq
   (.reg [⟨(some 17), .mv (.t 15), none⟩,
⟨(some 18), .index 8 1 false (.t 14) (.t 15), none⟩,
⟨(some 4), .mv (.t 17), none⟩,
⟨(some 5), .mv (.t 18), none⟩] (fullB 4) false)
   (.reg [⟨(some 19), .mv (.t 4), none⟩,
⟨(some 20), .mv (.t 5), none⟩,
⟨(some 21), .call (.k (.fn (.func 58) [] [])) [(.t 20)], none⟩,
⟨(some 22), .fld 74 (.t 3), none⟩,
⟨(some 23), .idxA 8 1 (.t 22) (.t 19), none⟩,
⟨none, .store 1 (.t 23) (.t 21), none⟩] (fullB 6) false)))
  (.reg [⟨(some 24), .bin .add (.t 15) (.k (.d (.int .i64 1))), none⟩,
⟨(some 15), .mv (.t 24), none⟩] (fullB 2) false)))))))
 (.seq
 (.reg [⟨(some 2), .mv (.t 3), none⟩] (fullB 1) false)
 .ret)))))
def rv : List RV := [.tmp 2]
theorem c : cK Try.prog Try.f25.ntmps (Try.f25.body.getD .ret) = some s := by kernel_rfl
theorem b : Try.f25.body = some (Try.f25.body.getD .ret) := by kernel_rfl
theorem r : cRV Try.prog Try.f25.results.toList = some rv := by kernel_rfl
theorem ca : Callable Try.prog 25 = true := by kernel_rfl
theorem enter {args : List SV} {F : Hp} {k nk : Nat} {Q : SV → Hp → Prop} (hargs : SV.oks (fun n => decide (n < k)) args = true) (hF : F.ok (fun n => decide (n < k)) = true) (hN : args.length ≤ 25)
    (h : SW Try.prog 25 k s ⟨argE 0 args, F, k⟩ fun e st' => match e with | .normal => Fin k nk rv Q st' | .ret => Fin k nk rv Q st' | _ => False) : SB Try.prog 25 args F k nk Q :=
  SB.of_body Try.func25 b c r ca hargs hF hN h
end stable_Tracker_Copy
namespace stable_Tracker_Counts
abbrev f : Nat := 26
def s : SCo := (.seq
(.reg [⟨(some 4), .alloc 25 [(.d (.int .u32 0)), (.d (.int .u32 0)), (.d (.int .u32 0)), (.d (.int .u32 0)), (.d (.int .u32 0)), (.d (.int .u32 0)), (.d (.int .u32 0)), (.d (.int .u32 0))], none⟩,
⟨(some 5), .mv (.k (.d (.int .i64 0))), none⟩] (fullB 2) false)
(.seq
(.block 0
(.seq
 (.reg [⟨(some 7), .mv (.t 0), none⟩,
⟨(some 8), .call (.k (.fn (.func 38) [] [])) [(.t 7)], none⟩,
⟨(some 6), .mv (.t 8), none⟩] (fullB 3) false)
 (.cond (.t 6)
 (.seq
 (.reg [⟨(some 9), .bld [(.d (.int .u32 0)), (.d (.int .u32 0)), (.d (.int .u32 0)), (.d (.int .u32 0)), (.d (.int .u32 0)), (.d (.int .u32 0)), (.d (.int .u32 0)), (.d (.int .u32 0))] [], none⟩,
⟨none, .store 8 (.t 4) (.t 9), none⟩,
⟨(some 5), .mv (.k (.d (.int .i64 1))), none⟩] (fullB 3) false)
 .ret)
 (.seq
 (.reg [⟨(some 11), .mv (.t 1), none⟩,
⟨(some 12), .conv .i64 (.t 11), none⟩,
⟨(some 13), .mv (.t 0), none⟩,
⟨(some 14), .nilc (.t 13), none⟩,
⟨(some 15), .fld 0 (.t 14), none⟩,
⟨(some 16), .load none (.t 15), none⟩,
⟨(some 17), .bin .geq (.t 12) (.t 16), none⟩,
⟨(some 10), .mv (.t 17), none⟩] (fullB 8) false)
 (.cond (.t 10)
 (.seq
  (.reg [⟨(some 18), .bld [(.d (.int .u32 0)), (.d (.int .u32 0)), (.d (.int .u32 0)), (.d (.int .u32 0)), (.d (.int .u32 0)), (.d (.int .u32 0)), (.d (.int .u32 0)), (.d (.int .u32 0))] [], none⟩,
⟨none, .store 8 (.t 4) (.t 18), none⟩,
⟨(some 5), .mv (.k (.d (.int .i64 2))), none⟩] (fullB 3) false)
  .ret)
 .skip)))))
(.seq
(.reg [⟨(some 19), .mv (.t 0), none⟩,
⟨(some 20), .mv (.t 1), none⟩,
⟨(some 21), .nilc (.t 19), none⟩,
⟨(some 22), .fld 10 (.t 21), none⟩,
⟨(some 23), .idxA 8 8 (.t 22) (.t 20), none⟩,
⟨(some 24), .load (some 8) (.t 23), none⟩,
⟨none, .store 8 (.t 4) (.t 24), none⟩,
⟨(some 5), .mv (.k (.d (.int .i64 0))), none⟩] (fullB 8) false)
.ret)))
def rv : List RV := [.cell 4 (some 8), .tmp 5]
theorem c : cK Try.prog Try.f26.ntmps (Try.f26.body.getD .ret) = some s := by kernel_rfl
theorem b : Try.f26.body = some (Try.f26.body.getD .ret) := by kernel_rfl
theorem r : cRV Try.prog Try.f26.results.toList = some rv := by kernel_rfl
theorem ca : Callable Try.prog 26 = true := by kernel_rfl
theorem enter {args : List SV} {F : Hp} {k nk : Nat} {Q : SV → Hp → Prop} (hargs : SV.oks (fun n => decide (n < k)) args = true) (hF : F.ok (fun n => decide (n < k)) = true) (hN : args.length ≤ 25)
    (h : SW Try.prog 25 k s ⟨argE 0 args, F, k⟩ fun e st' => match e with | .normal => Fin k nk rv Q st' | .ret => Fin k nk rv Q st' | _ => False) : SB Try.prog 26 args F k nk Q :=
  SB.of_body Try.func26 b c r ca hargs hF hN h
end stable_Tracker_Counts
namespace stable_Tracker_Waits
abbrev f : Nat := 27
def s : SCo := (.seq
(.reg [⟨(some 2), .mv (.k (.d (.int .i64 0))), none⟩] (fullB 1) false)
(.seq
(.seq
(.reg [⟨(some 6), .mv (.t 0), none⟩,
⟨(some 7), .call (.k (.fn (.func 38) [] [])) [(.t 6)], none⟩] (fullB 2) false)
(.cond (.t 7)
 (.seq
 (.reg [⟨(some 2), .mv (.k (.d (.int .i64 0))), none⟩] (fullB 1) false)
 .ret)
 .skip))
(.seq
(.reg [⟨(some 3), .mv (.k (.d (.int .i64 0))), none⟩] (fullB 1) false)
(.seq
 (.seq
 (.reg [⟨(some 8), .mv (.t 0), none⟩,
⟨(some 9), .nilc (.t 8), none⟩,
⟨(some 10), .fld 74 (.t 9), none⟩,
⟨(some 11), .load (some 8) (.t 10), none⟩,
⟨(some 12), .mv (.k (.d (.int .i64 0))), none⟩] (fullB 5) false)
 (.block 0
 (.loop
 (.seq
  (.reg [⟨(some 13), .bin .lss (.t 12) (.k (.d (.int .i64 8))), none⟩] (fullB 1) false)
  (.seq
  (.cond (.t 13)
  .skip
  (.exit 0))
  (.seq
  (.block 1
  (.seq
   (.reg [⟨(some 14), .index 8 1 false (.t 11) (.t 12), none⟩,
⟨(some 5), .mv (.t 14), none⟩] (fullB 2) false)
   (.reg [⟨(some 15), .mv (.t 3), none⟩,
⟨(some 16), .mv (.t 5), none⟩,
⟨(some 17), .mlen (.t 16), none⟩,
⟨(some 18), .bin .add (.t 15) (.t 17), none⟩,
⟨(some 3), .mv (.t 18), none⟩] (fullB 5) false)))
  (.reg [⟨(some 19), .bin .add (.t 12) (.k (.d (.int .i64 1))), none⟩,
⟨(some 12), .mv (.t 19), none⟩] (fullB 2) false)))))))
 (.seq
 (.reg [⟨(some 20), .mv (.t 3), none⟩,
⟨(some 2), .mv (.t 20), none⟩] (fullB 2) false)
 .ret)))))
def rv : List RV := [.tmp 2]
theorem c : cK Try.prog Try.f27.ntmps (Try.f27.body.getD .ret) = some s := by kernel_rfl
theorem b : Try.f27.body = some (Try.f27.body.getD .ret) := by kernel_rfl
theorem r : cRV Try.prog Try.f27.results.toList = some rv := by kernel_rfl
theorem ca : Callable Try.prog 27 = true := by kernel_rfl
theorem enter {args : List SV} {F : Hp} {k nk : Nat} {Q : SV → Hp → Prop} (hargs : SV.oks (fun n => decide (n < k)) args = true) (hF : F.ok (fun n => decide (n < k)) = true) (hN : args.length ≤ 21)
    (h : SW Try.prog 21 k s ⟨argE 0 args, F, k⟩ fun e st' => match e with | .normal => Fin k nk rv Q st' | .ret => Fin k nk rv Q st' | _ => False) : SB Try.prog 27 args F k nk Q :=
  SB.of_body Try.func27 b c r ca hargs hF hN h
end stable_Tracker_Waits
namespace ref12_New
end ref12_New
namespace law12_does
end law12_does
namespace law12_same
end law12_same
namespace stable_Tracker_Own
abbrev f : Nat := 31
def s : SCo := (.seq
(.reg [⟨(some 2), .alloc 25 [(.d (.int .u32 0)), (.d (.int .u32 0)), (.d (.int .u32 0)), (.d (.int .u32 0)), (.d (.int .u32 0)), (.d (.int .u32 0)), (.d (.int .u32 0)), (.d (.int .u32 0))], none⟩] (fullB 1) false)
(.seq
(.seq
(.reg [⟨(some 3), .mv (.t 0), none⟩,
⟨(some 4), .call (.k (.fn (.func 38) [] [])) [(.t 3)], none⟩] (fullB 2) false)
(.cond (.t 4)
 (.seq
 (.reg [⟨(some 5), .bld [(.d (.int .u32 0)), (.d (.int .u32 0)), (.d (.int .u32 0)), (.d (.int .u32 0)), (.d (.int .u32 0)), (.d (.int .u32 0)), (.d (.int .u32 0)), (.d (.int .u32 0))] [], none⟩,
⟨none, .store 8 (.t 2) (.t 5), none⟩] (fullB 2) false)
 .ret)
 .skip))
(.seq
(.reg [⟨(some 6), .mv (.t 0), none⟩,
⟨(some 7), .nilc (.t 6), none⟩,
⟨(some 8), .fld 2 (.t 7), none⟩,
⟨(some 9), .load (some 8) (.t 8), none⟩,
⟨none, .store 8 (.t 2) (.t 9), none⟩] (fullB 5) false)
.ret)))
def rv : List RV := [.cell 2 (some 8)]
theorem c : cK Try.prog Try.f31.ntmps (Try.f31.body.getD .ret) = some s := by kernel_rfl
theorem b : Try.f31.body = some (Try.f31.body.getD .ret) := by kernel_rfl
theorem r : cRV Try.prog Try.f31.results.toList = some rv := by kernel_rfl
theorem ca : Callable Try.prog 31 = true := by kernel_rfl
theorem enter {args : List SV} {F : Hp} {k nk : Nat} {Q : SV → Hp → Prop} (hargs : SV.oks (fun n => decide (n < k)) args = true) (hF : F.ok (fun n => decide (n < k)) = true) (hN : args.length ≤ 10)
    (h : SW Try.prog 10 k s ⟨argE 0 args, F, k⟩ fun e st' => match e with | .normal => Fin k nk rv Q st' | .ret => Fin k nk rv Q st' | _ => False) : SB Try.prog 31 args F k nk Q :=
  SB.of_body Try.func31 b c r ca hargs hF hN h
end stable_Tracker_Own
namespace ref05_Check
abbrev f : Nat := 36
def s : SCo := (.seq
(.reg [⟨(some 2), .box 41 (.t 0), none⟩,
⟨(some 4), .mv (.k (.d (.int .i64 0))), none⟩] (fullB 2) false)
(.seq
(.seq
(.reg [⟨(some 7), .mv (.t 1), none⟩,
⟨(some 8), .bin .lss (.t 7) (.k (.d (.int .i64 1))), none⟩,
⟨(some 9), .mv (.t 8), none⟩,
⟨(some 10), .mv (.t 1), some (9, false)⟩,
⟨(some 11), .bin .gtr (.t 10) (.k (.d (.int .i64 8))), some (9, false)⟩,
⟨(some 12), .pick (.t 9) (.k (.d (.bool true))) (.t 11), none⟩] (fullB 6) false)
(.cond (.t 12)
 (.seq
 (.reg [⟨(some 4), .mv (.k (.d (.int .i64 2))), none⟩] (fullB 1) false)
 .ret)
 .skip))
(.seq
(.seq
 (.reg (⟨(some 13), .fld 0 (.t 2), none⟩ ::
⟨(some 14), .fld 0 (.t 13), none⟩ ::
⟨(some 15), .load none (.t 14), none⟩ ::
⟨(some 16), .conv .i64 (.t 15), none⟩ ::
⟨(some 17), .mv (.t 1), none⟩ ::
⟨(some 18), .bin .geq (.t 16) (.t 17), none⟩ ::
⟨(some 19), .mv (.t 18), none⟩ ::
⟨(some 20), .fld 0 (.t 2), some (19, false)⟩ ::
⟨(some 21), .fld 1 (.t 20), some (19, false)⟩ ::
⟨(some 22), .load none (.t 21), some (19, false)⟩ ::
⟨(some 23), .bin .eql (.t 22) (.k (.d (.int .u32 0))), some (19, false)⟩ ::
⟨(some 24), .pick (.t 19) (.k (.d (.bool true))) (.t 23), none⟩ ::
⟨(some 25), .mv (.t 24), none⟩ ::
⟨(some 26), .fld 0 (.t 2), some (25, false)⟩ ::
⟨(some 27), .fld 0 (.t 26), some (25, false)⟩ ::
⟨(some 28), .load none (.t 27), some (25, false)⟩ ::
⟨(some 29), .fld 2 (.t 2), some (25, false)⟩ ::
⟨(some 30), .idxA 8 1 (.t 29) (.t 28), some (25, false)⟩ ::
⟨(some 31), .load none (.t 30), some (25, false)⟩ ::
⟨(some 32), .fld 0 (.t 2), some (25, false)⟩ ::
⟨(some 33), .fld 1 (.t 32), some (25, false)⟩ ::
⟨(some 34), .load none (.t 33), some (25, false)⟩ ::
⟨(some 35), .bin .sub (.t 34) (.k (.d (.int .u32 1))), some (25, false)⟩ ::
⟨(some 36), .bin .neq (.t 31) (.t 35), some (25, false)⟩ ::
⟨(some 37), .pick (.t 25) (.k (.d (.bool true))) (.t 36), none⟩ ::
⟨(some 38), .mv (.t 37), none⟩ ::
⟨(some 39), .fld 10 (.t 2), some (38, false)⟩ ::
⟨(some 40), .load none (.t 39), some (38, false)⟩ ::
⟨(some 41), .bin .lss (.t 40) (.k (.d (.int .u64 1))), some (38, false)⟩ ::
⟨(some 42), .pick (.t 38) (.k (.d (.bool true))) (.t 41), none⟩ ::
⟨(some 43), .mv (.t 42), none⟩ ::
⟨(some 44), .fld 10 (.t 2), some (43, false)⟩ ::
⟨(some 45), .load none (.t 44), some (43, false)⟩ ::
⟨(some 46), .bin .gtr (.t 45) (.k (.d (.int .u64 281474976710656))), some (43, false)⟩ ::
⟨(some 47), .pick (.t 43) (.k (.d (.bool true))) (.t 46), none⟩ ::
⟨(some 48), .mv (.t 47), none⟩ ::
⟨(some 49), .fld 11 (.t 2), some (48, false)⟩ ::
⟨(some 50), .load none (.t 49), some (48, false)⟩ ::
⟨(some 51), .bin .eql (.t 50) (.k (.d (.int .u32 0))), some (48, false)⟩ ::
⟨(some 52), .pick (.t 48) (.k (.d (.bool true))) (.t 51), none⟩ ::
⟨(some 53), .mv (.t 52), none⟩ ::
⟨(some 54), .fld 14 (.t 2), some (53, false)⟩ ::
⟨(some 55), .load none (.t 54), some (53, false)⟩ ::
⟨(some 56), .bin .gtr (.t 55) (.k (.d (.int .u8 8))), some (53, false)⟩ ::
⟨(some 57), .pick (.t 53) (.k (.d (.bool true))) (.t 56), none⟩ ::
⟨(some 58), .mv (.t 57), none⟩ ::
⟨(some 59), .load (some 29) (.t 2), some (58, false)⟩ ::
⟨(some 60), .call (.k (.fn (.func 80) [] [])) [(.t 59)], some (58, false)⟩ ::
⟨(some 61), .not (.t 60), some (58, false)⟩ ::
⟨(some 62), .pick (.t 58) (.k (.d (.bool true))) (.t 61), none⟩ :: []) (0 ::
1 ::
3 ::
7 ::
0 ::
31 ::
63 ::
127 ::
255 ::
511 ::
1023 ::
2047 ::
4095 ::
8191 ::
16383 ::
32767 ::
8191 ::
131071 ::
262143 ::
8191 ::
532479 ::
1581055 ::
3678207 ::
8388607 ::
16777215 ::
33554431 ::
67108863 ::
134217727 ::
268435455 ::
536870911 ::
1073741823 ::
2147483647 ::
4294967295 ::
8589934591 ::
17179869183 ::
34359738367 ::
68719476735 ::
137438953471 ::
274877906943 ::
549755813887 ::
1099511627775 ::
2199023255551 ::
4398046511103 ::
8796093022207 ::
17592186044415 ::
35184372088831 ::
70368744177663 ::
140737488355327 ::
281474976710655 ::
562949953421311 :: []) true)
 (.cond (.t 62)
 (.seq
 (.reg [⟨(some 4), .mv (.k (.d (.int .i64 5))), none⟩] (fullB 1) false)
 .ret)
 .skip))
(.seq
 (.seq
 (.reg [⟨(some 63), .mv (.t 1), none⟩,
⟨(some 5), .mv (.t 63), none⟩] (fullB 2) false)
 (.block 0
 (.loop
 (.seq
  (.seq
  (.reg [⟨(some 64), .mv (.t 5), none⟩,
⟨(some 65), .bin .lss (.t 64) (.k (.d (.int .i64 8))), none⟩] (fullB 2) false)
  (.cond (.t 65)
  .skip
  (.exit 0)))
  (.seq
  (.block 1
  (.seq
  (.reg [⟨(some 68), .mv (.t 5), none⟩,
⟨(some 69), .fld 2 (.t 2), none⟩,
⟨(some 70), .idxA 8 1 (.t 69) (.t 68), none⟩,
⟨(some 71), .load none (.t 70), none⟩,
⟨(some 72), .bin .neq (.t 71) (.k (.d (.int .u32 0))), none⟩] (fullB 5) false)
  (.cond (.t 72)
   (.seq
   (.reg [⟨(some 4), .mv (.k (.d (.int .i64 5))), none⟩] (fullB 1) false)
   .ret)
   .skip)))
  (.reg [⟨(some 66), .mv (.t 5), none⟩,
⟨(some 67), .bin .add (.t 66) (.k (.d (.int .i64 1))), none⟩,
⟨(some 5), .mv (.t 67), none⟩] (fullB 3) false))))))
 (.seq
 (.reg [⟨(some 73), .fld 14 (.t 2), none⟩,
⟨(some 74), .load none (.t 73), none⟩,
⟨(some 75), .call (.k (.fn (.func 81) [] [])) [(.t 74)], none⟩,
⟨(some 6), .mv (.t 75), none⟩] (fullB 4) false)
 (.seq
 (.seq
 (.reg (⟨(some 76), .fld 14 (.t 2), none⟩ ::
⟨(some 77), .load none (.t 76), none⟩ ::
⟨(some 78), .bin .eql (.t 77) (.k (.d (.int .u8 0))), none⟩ ::
⟨(some 79), .mv (.t 78), none⟩ ::
⟨(some 80), .fld 12 (.t 2), some (79, true)⟩ ::
⟨(some 81), .load (some 2) (.t 80), some (79, true)⟩ ::
⟨(some 82), .fld 0 (.t 2), some (79, true)⟩ ::
⟨(some 83), .load (some 2) (.t 82), some (79, true)⟩ ::
⟨(some 84), .eqv true [true, true] (.t 81) (.t 83), some (79, true)⟩ ::
⟨(some 85), .pick (.t 79) (.t 84) (.k (.d (.bool false))), none⟩ ::
⟨(some 86), .mv (.t 85), none⟩ ::
⟨(some 87), .fld 14 (.t 2), some (86, false)⟩ ::
⟨(some 88), .load none (.t 87), some (86, false)⟩ ::
⟨(some 89), .bin .neq (.t 88) (.k (.d (.int .u8 0))), some (86, false)⟩ ::
⟨(some 90), .mv (.t 89), some (86, false)⟩ ::
⟨(some 91), .load (some 29) (.t 2), some (90, true)⟩ ::
⟨(some 92), .fld 12 (.t 2), some (90, true)⟩ ::
⟨(some 93), .load (some 2) (.t 92), some (90, true)⟩ ::
⟨(some 94), .call (.k (.fn (.func 82) [] [])) [(.t 91), (.t 93)], some (90, true)⟩ ::
⟨(some 95), .not (.t 94), some (90, true)⟩ ::
⟨(some 96), .pick (.t 90) (.t 95) (.k (.d (.bool false))), some (86, false)⟩ ::
⟨(some 97), .pick (.t 86) (.k (.d (.bool true))) (.t 96), none⟩ ::
⟨(some 98), .mv (.t 97), none⟩ ::
⟨(some 99), .mv (.t 6), some (98, false)⟩ ::
⟨(some 100), .call (.k (.fn (.func 83) [] [])) [(.t 99), (.k (.d (.int .u8 99)))], some (98, false)⟩ ::
⟨(some 101), .mv (.t 100), some (98, false)⟩ ::
⟨(some 102), .load (some 29) (.t 2), some (101, true)⟩ ::
⟨(some 103), .fld 15 (.t 2), some (101, true)⟩ ::
⟨(some 104), .load (some 2) (.t 103), some (101, true)⟩ ::
⟨(some 105), .call (.k (.fn (.func 82) [] [])) [(.t 102), (.t 104)], some (101, true)⟩ ::
⟨(some 106), .not (.t 105), some (101, true)⟩ ::
⟨(some 107), .pick (.t 101) (.t 106) (.k (.d (.bool false))), some (98, false)⟩ ::
⟨(some 108), .pick (.t 98) (.k (.d (.bool true))) (.t 107), none⟩ ::
⟨(some 109), .mv (.t 108), none⟩ ::
⟨(some 110), .mv (.t 6), some (109, false)⟩ ::
⟨(some 111), .call (.k (.fn (.func 83) [] [])) [(.t 110), (.k (.d (.int .u8 97)))], some (109, false)⟩ ::
⟨(some 112), .mv (.t 111), some (109, false)⟩ ::
⟨(some 113), .load (some 29) (.t 2), some (112, true)⟩ ::
⟨(some 114), .fld 21 (.t 2), some (112, true)⟩ ::
⟨(some 115), .load (some 2) (.t 114), some (112, true)⟩ ::
⟨(some 116), .call (.k (.fn (.func 82) [] [])) [(.t 113), (.t 115)], some (112, true)⟩ ::
⟨(some 117), .not (.t 116), some (112, true)⟩ ::
⟨(some 118), .pick (.t 112) (.t 117) (.k (.d (.bool false))), some (109, false)⟩ ::
⟨(some 119), .pick (.t 109) (.k (.d (.bool true))) (.t 118), none⟩ ::
⟨(some 120), .mv (.t 119), none⟩ ::
⟨(some 121), .mv (.t 6), some (120, false)⟩ ::
⟨(some 122), .call (.k (.fn (.func 83) [] [])) [(.t 121), (.k (.d (.int .u8 118)))], some (120, false)⟩ ::
⟨(some 123), .mv (.t 122), some (120, false)⟩ ::
⟨(some 124), .load (some 29) (.t 2), some (123, true)⟩ ::
⟨(some 125), .fld 23 (.t 2), some (123, true)⟩ ::
⟨(some 126), .load (some 2) (.t 125), some (123, true)⟩ ::
⟨(some 127), .call (.k (.fn (.func 82) [] [])) [(.t 124), (.t 126)], some (123, true)⟩ ::
⟨(some 128), .not (.t 127), some (123, true)⟩ ::
⟨(some 129), .pick (.t 123) (.t 128) (.k (.d (.bool false))), some (120, false)⟩ ::
⟨(some 130), .pick (.t 120) (.k (.d (.bool true))) (.t 129), none⟩ :: []) (fullB 55) false)
 (.cond (.t 130)
  (.seq
  (.reg [⟨(some 4), .mv (.k (.d (.int .i64 5))), none⟩] (fullB 1) false)
  .ret)
  .skip))
 (.seq
 (.seq
  (.reg (⟨(some 131), .mv (.t 6), none⟩ ::
⟨(some 132), .call (.k (.fn (.func 83) [] [])) [(.t 131), (.k (.d (.int .u8 116)))], none⟩ ::
⟨(some 133), .mv (.t 132), none⟩ ::
⟨(some 134), .fld 17 (.t 2), some (133, true)⟩ ::
⟨(some 135), .load none (.t 134), some (133, true)⟩ ::
⟨(some 136), .bin .eql (.t 135) (.k (.d (.int .u32 0))), some (133, true)⟩ ::
⟨(some 137), .mv (.t 136), some (133, true)⟩ ::
⟨(some 138), .fld 18 (.t 2), some (137, false)⟩ ::
⟨(some 139), .load none (.t 138), some (137, false)⟩ ::
⟨(some 140), .bin .lss (.t 139) (.k (.d (.int .u8 1))), some (137, false)⟩ ::
⟨(some 141), .pick (.t 137) (.k (.d (.bool true))) (.t 140), some (133, true)⟩ ::
⟨(some 142), .mv (.t 141), some (133, true)⟩ ::
⟨(some 143), .fld 18 (.t 2), some (142, false)⟩ ::
⟨(some 144), .load none (.t 143), some (142, false)⟩ ::
⟨(some 145), .bin .gtr (.t 144) (.k (.d (.int .u8 7))), some (142, false)⟩ ::
⟨(some 146), .pick (.t 142) (.k (.d (.bool true))) (.t 145), some (133, true)⟩ ::
⟨(some 147), .mv (.t 146), some (133, true)⟩ ::
⟨(some 148), .fld 19 (.t 2), some (147, false)⟩ ::
⟨(some 149), .load none (.t 148), some (147, false)⟩ ::
⟨(some 150), .bin .gtr (.t 149) (.k (.d (.int .u8 7))), some (147, false)⟩ ::
⟨(some 151), .pick (.t 147) (.k (.d (.bool true))) (.t 150), some (133, true)⟩ ::
⟨(some 152), .mv (.t 151), some (133, true)⟩ ::
⟨(some 153), .fld 20 (.t 2), some (152, false)⟩ ::
⟨(some 154), .load none (.t 153), some (152, false)⟩ ::
⟨(some 155), .bin .gtr (.t 154) (.k (.d (.int .u64 1099511627776))), some (152, false)⟩ ::
⟨(some 156), .pick (.t 152) (.k (.d (.bool true))) (.t 155), some (133, true)⟩ ::
⟨(some 157), .pick (.t 133) (.t 156) (.k (.d (.bool false))), none⟩ ::
⟨(some 158), .mv (.t 157), none⟩ ::
⟨(some 159), .mv (.t 6), some (158, false)⟩ ::
⟨(some 160), .call (.k (.fn (.func 83) [] [])) [(.t 159), (.k (.d (.int .u8 113)))], some (158, false)⟩ ::
⟨(some 161), .mv (.t 160), some (158, false)⟩ ::
⟨(some 162), .fld 26 (.t 2), some (161, true)⟩ ::
⟨(some 163), .load none (.t 162), some (161, true)⟩ ::
⟨(some 164), .bin .lss (.t 163) (.k (.d (.int .u32 1))), some (161, true)⟩ ::
⟨(some 165), .mv (.t 164), some (161, true)⟩ ::
⟨(some 166), .fld 26 (.t 2), some (165, false)⟩ ::
⟨(some 167), .load none (.t 166), some (165, false)⟩ ::
⟨(some 168), .bin .gtr (.t 167) (.k (.d (.int .u32 65535))), some (165, false)⟩ ::
⟨(some 169), .pick (.t 165) (.k (.d (.bool true))) (.t 168), some (161, true)⟩ ::
⟨(some 170), .pick (.t 161) (.t 169) (.k (.d (.bool false))), some (158, false)⟩ ::
⟨(some 171), .pick (.t 158) (.k (.d (.bool true))) (.t 170), none⟩ ::
⟨(some 172), .mv (.t 171), none⟩ ::
⟨(some 173), .fld 27 (.t 2), some (172, false)⟩ ::
⟨(some 174), .load none (.t 173), some (172, false)⟩ ::
⟨(some 175), .bin .gtr (.t 174) (.k (.d (.int .u32 16777215))), some (172, false)⟩ ::
⟨(some 176), .pick (.t 172) (.k (.d (.bool true))) (.t 175), none⟩ ::
⟨(some 177), .mv (.t 176), none⟩ ::
⟨(some 178), .mv (.t 6), some (177, false)⟩ ::
⟨(some 179), .call (.k (.fn (.func 83) [] [])) [(.t 178), (.k (.d (.int .u8 108)))], some (177, false)⟩ ::
⟨(some 180), .mv (.t 179), some (177, false)⟩ ::
⟨(some 181), .load (some 29) (.t 2), some (180, true)⟩ ::
⟨(some 182), .call (.k (.fn (.func 84) [] [])) [(.t 181)], some (180, true)⟩ ::
⟨(some 183), .not (.t 182), some (180, true)⟩ ::
⟨(some 184), .pick (.t 180) (.t 183) (.k (.d (.bool false))), some (177, false)⟩ ::
⟨(some 185), .pick (.t 177) (.k (.d (.bool true))) (.t 184), none⟩ :: []) (fullB 55) false)
  (.cond (.t 185)
  (.seq
  (.reg [⟨(some 4), .mv (.k (.d (.int .i64 5))), none⟩] (fullB 1) false)
  .ret)
  .skip))
 (.seq
  (.reg [⟨(some 4), .mv (.k (.d (.int .i64 0))), none⟩] (fullB 1) false)
  .ret))))))))
def rv : List RV := [.tmp 4]
theorem c : cK Try.prog Try.f36.ntmps (Try.f36.body.getD .ret) = some s := by kernel_rfl
theorem b : Try.f36.body = some (Try.f36.body.getD .ret) := by kernel_rfl
theorem r : cRV Try.prog Try.f36.results.toList = some rv := by kernel_rfl
theorem ca : Callable Try.prog 36 = true := by kernel_rfl
theorem enter {args : List SV} {F : Hp} {k nk : Nat} {Q : SV → Hp → Prop} (hargs : SV.oks (fun n => decide (n < k)) args = true) (hF : F.ok (fun n => decide (n < k)) = true) (hN : args.length ≤ 186)
    (h : SW Try.prog 186 k s ⟨argE 0 args, F, k⟩ fun e st' => match e with | .normal => Fin k nk rv Q st' | .ret => Fin k nk rv Q st' | _ => False) : SB Try.prog 36 args F k nk Q :=
  SB.of_body Try.func36 b c r ca hargs hF hN h
end ref05_Check
namespace ref10_one
abbrev f : Nat := 37
def s : SCo := (.seq
(.reg [⟨(some 3), .box 41 (.t 1), none⟩,
⟨(some 4), .mv (.k (.d (.bool false))), none⟩] (fullB 2) false)
(.seq
(.seq
(.reg (⟨(some 7), .mv (.t 0), none⟩ ::
⟨(some 8), .fld 0 (.t 3), none⟩ ::
⟨(some 9), .load (some 2) (.t 8), none⟩ ::
⟨(some 10), .call (.k (.fn (.func 85) [] [])) [(.t 7), (.t 9)], none⟩ ::
⟨(some 11), .bin .neq (.t 10) (.k (.d (.int .i64 1))), none⟩ ::
⟨(some 12), .mv (.t 11), none⟩ ::
⟨(some 13), .fld 0 (.t 3), some (12, false)⟩ ::
⟨(some 14), .fld 1 (.t 13), some (12, false)⟩ ::
⟨(some 15), .load none (.t 14), some (12, false)⟩ ::
⟨(some 16), .bin .gtr (.t 15) (.k (.d (.int .u32 1))), some (12, false)⟩ ::
⟨(some 17), .mv (.t 16), some (12, false)⟩ ::
⟨(some 18), .mv (.t 0), some (17, true)⟩ ::
⟨(some 19), .fld 0 (.t 3), some (17, true)⟩ ::
⟨(some 20), .fld 0 (.t 19), some (17, true)⟩ ::
⟨(some 21), .load none (.t 20), some (17, true)⟩ ::
⟨(some 22), .fld 0 (.t 3), some (17, true)⟩ ::
⟨(some 23), .fld 1 (.t 22), some (17, true)⟩ ::
⟨(some 24), .load none (.t 23), some (17, true)⟩ ::
⟨(some 25), .bin .sub (.t 24) (.k (.d (.int .u32 1))), some (17, true)⟩ ::
⟨(some 26), .bld [(.d (.int .u8 0)), (.d (.int .u32 0))] [(0, 1, (.t 21)), (1, 1, (.t 25))], some (17, true)⟩ ::
⟨(some 27), .call (.k (.fn (.func 85) [] [])) [(.t 18), (.t 26)], some (17, true)⟩ ::
⟨(some 28), .bin .neq (.t 27) (.k (.d (.int .i64 1))), some (17, true)⟩ ::
⟨(some 29), .pick (.t 17) (.t 28) (.k (.d (.bool false))), some (12, false)⟩ ::
⟨(some 30), .pick (.t 12) (.k (.d (.bool true))) (.t 29), none⟩ :: []) (fullB 24) false)
(.cond (.t 30)
 (.seq
 (.reg [⟨(some 4), .mv (.k (.d (.bool false))), none⟩] (fullB 1) false)
 .ret)
 .skip))
(.seq
(.seq
 (.reg [⟨(some 5), .mv (.k (.d (.int .i64 0))), none⟩] (fullB 1) false)
 (.block 0
 (.loop
 (.seq
 (.seq
  (.reg [⟨(some 31), .mv (.t 5), none⟩,
⟨(some 32), .bin .lss (.t 31) (.k (.d (.int .i64 8))), none⟩] (fullB 2) false)
  (.cond (.t 32)
  .skip
  (.exit 0)))
 (.seq
  (.block 1
  (.seq
  (.reg (⟨(some 35), .mv (.t 5), none⟩ ::
⟨(some 36), .fld 2 (.t 3), none⟩ ::
⟨(some 37), .idxA 8 1 (.t 36) (.t 35), none⟩ ::
⟨(some 38), .load none (.t 37), none⟩ ::
⟨(some 39), .bin .gtr (.t 38) (.k (.d (.int .u32 0))), none⟩ ::
⟨(some 40), .mv (.t 39), none⟩ ::
⟨(some 41), .mv (.t 0), some (40, true)⟩ ::
⟨(some 42), .mv (.t 5), some (40, true)⟩ ::
⟨(some 43), .conv .u8 (.t 42), some (40, true)⟩ ::
⟨(some 44), .mv (.t 5), some (40, true)⟩ ::
⟨(some 45), .fld 2 (.t 3), some (40, true)⟩ ::
⟨(some 46), .idxA 8 1 (.t 45) (.t 44), some (40, true)⟩ ::
⟨(some 47), .load none (.t 46), some (40, true)⟩ ::
⟨(some 48), .bld [(.d (.int .u8 0)), (.d (.int .u32 0))] [(0, 1, (.t 43)), (1, 1, (.t 47))], some (40, true)⟩ ::
⟨(some 49), .call (.k (.fn (.func 85) [] [])) [(.t 41), (.t 48)], some (40, true)⟩ ::
⟨(some 50), .bin .neq (.t 49) (.k (.d (.int .i64 1))), some (40, true)⟩ ::
⟨(some 51), .pick (.t 40) (.t 50) (.k (.d (.bool false))), none⟩ :: []) (fullB 17) false)
  (.cond (.t 51)
  (.seq
   (.reg [⟨(some 4), .mv (.k (.d (.bool false))), none⟩] (fullB 1) false)
   .ret)
  .skip)))
  (.reg [⟨(some 33), .mv (.t 5), none⟩,
⟨(some 34), .bin .add (.t 33) (.k (.d (.int .i64 1))), none⟩,
⟨(some 5), .mv (.t 34), none⟩] (fullB 3) false))))))
(.seq
 (.seq
 (.reg [⟨(some 6), .mv (.k (.d (.int .i64 0))), none⟩] (fullB 1) false)
 (.block 2
 (.loop
 (.seq
  (.seq
  (.reg [⟨(some 52), .mv (.t 6), none⟩,
⟨(some 53), .mv (.t 0), none⟩,
⟨(some 54), .len (.t 53), none⟩,
⟨(some 55), .bin .lss (.t 52) (.t 54), none⟩] (fullB 4) false)
  (.cond (.t 55)
  .skip
  (.exit 2)))
  (.seq
  (.block 3
  (.seq
  (.reg (⟨(some 58), .mv (.t 0), none⟩ ::
⟨(some 59), .mv (.t 6), none⟩ ::
⟨(some 60), .idxS 29 (.t 58) (.t 59), none⟩ ::
⟨(some 61), .load (some 29) (.t 60), none⟩ ::
⟨(some 62), .load (some 29) (.t 3), none⟩ ::
⟨(some 63), .call (.k (.fn (.func 86) [] [])) [(.t 61), (.t 62)], none⟩ ::
⟨(some 64), .mv (.t 63), none⟩ ::
⟨(some 65), .mv (.t 0), some (64, true)⟩ ::
⟨(some 66), .mv (.t 6), some (64, true)⟩ ::
⟨(some 67), .idxS 29 (.t 65) (.t 66), some (64, true)⟩ ::
⟨(some 68), .fld 10 (.t 67), some (64, true)⟩ ::
⟨(some 69), .load none (.t 68), some (64, true)⟩ ::
⟨(some 70), .fld 10 (.t 3), some (64, true)⟩ ::
⟨(some 71), .load none (.t 70), some (64, true)⟩ ::
⟨(some 72), .bin .geq (.t 69) (.t 71), some (64, true)⟩ ::
⟨(some 73), .mv (.t 72), some (64, true)⟩ ::
⟨(some 74), .fld 2 (.t 3), some (73, false)⟩ ::
⟨(some 75), .load (some 8) (.t 74), some (73, false)⟩ ::
⟨(some 76), .mv (.t 0), some (73, false)⟩ ::
⟨(some 77), .mv (.t 6), some (73, false)⟩ ::
⟨(some 78), .idxS 29 (.t 76) (.t 77), some (73, false)⟩ ::
⟨(some 79), .fld 2 (.t 78), some (73, false)⟩ ::
⟨(some 80), .load (some 8) (.t 79), some (73, false)⟩ ::
⟨(some 81), .call (.k (.fn (.func 18) [] [])) [(.t 75), (.t 80)], some (73, false)⟩ ::
⟨(some 82), .not (.t 81), some (73, false)⟩ ::
⟨(some 83), .pick (.t 73) (.k (.d (.bool true))) (.t 82), some (64, true)⟩ ::
⟨(some 84), .pick (.t 64) (.t 83) (.k (.d (.bool false))), none⟩ :: []) (0 ::
0 ::
3 ::
7 ::
0 ::
31 ::
63 ::
127 ::
127 ::
511 ::
1023 ::
2047 ::
127 ::
4223 ::
16383 ::
32767 ::
65535 ::
131071 ::
65535 ::
65535 ::
851967 ::
1900543 ::
3997695 ::
8388607 ::
16777215 ::
33554431 ::
67108863 :: []) true)
  (.cond (.t 84)
   (.seq
   (.reg [⟨(some 4), .mv (.k (.d (.bool false))), none⟩] (fullB 1) false)
   .ret)
   .skip)))
  (.reg [⟨(some 56), .mv (.t 6), none⟩,
⟨(some 57), .bin .add (.t 56) (.k (.d (.int .i64 1))), none⟩,
⟨(some 6), .mv (.t 57), none⟩] (fullB 3) false))))))
 (.seq
 (.reg [⟨(some 4), .mv (.k (.d (.bool true))), none⟩] (fullB 1) false)
 .ret)))))
def rv : List RV := [.tmp 4]
theorem c : cK Try.prog Try.f37.ntmps (Try.f37.body.getD .ret) = some s := by kernel_rfl
theorem b : Try.f37.body = some (Try.f37.body.getD .ret) := by kernel_rfl
theorem r : cRV Try.prog Try.f37.results.toList = some rv := by kernel_rfl
theorem ca : Callable Try.prog 37 = true := by kernel_rfl
theorem enter {args : List SV} {F : Hp} {k nk : Nat} {Q : SV → Hp → Prop} (hargs : SV.oks (fun n => decide (n < k)) args = true) (hF : F.ok (fun n => decide (n < k)) = true) (hN : args.length ≤ 85)
    (h : SW Try.prog 85 k s ⟨argE 0 args, F, k⟩ fun e st' => match e with | .normal => Fin k nk rv Q st' | .ret => Fin k nk rv Q st' | _ => False) : SB Try.prog 37 args F k nk Q :=
  SB.of_body Try.func37 b c r ca hargs hF hN h
end ref10_one
namespace stable_Tracker_none
abbrev f : Nat := 38
def s : SCo := (.seq
(.reg [⟨(some 2), .mv (.k (.d (.bool false))), none⟩] (fullB 1) false)
(.seq
(.reg [⟨(some 3), .mv (.t 0), none⟩,
⟨(some 4), .eqnil false 0 (.t 3), none⟩,
⟨(some 5), .mv (.t 4), none⟩,
⟨(some 6), .mv (.t 0), some (5, false)⟩,
⟨(some 7), .nilc (.t 6), some (5, false)⟩,
⟨(some 8), .fld 0 (.t 7), some (5, false)⟩,
⟨(some 9), .load none (.t 8), some (5, false)⟩,
⟨(some 10), .bin .eql (.t 9) (.k (.d (.int .i64 0))), some (5, false)⟩,
⟨(some 11), .pick (.t 5) (.k (.d (.bool true))) (.t 10), none⟩,
⟨(some 2), .mv (.t 11), none⟩] (fullB 10) false)
.ret))
def rv : List RV := [.tmp 2]
theorem c : cK Try.prog Try.f38.ntmps (Try.f38.body.getD .ret) = some s := by kernel_rfl
theorem b : Try.f38.body = some (Try.f38.body.getD .ret) := by kernel_rfl
theorem r : cRV Try.prog Try.f38.results.toList = some rv := by kernel_rfl
theorem ca : Callable Try.prog 38 = true := by kernel_rfl
theorem enter {args : List SV} {F : Hp} {k nk : Nat} {Q : SV → Hp → Prop} (hargs : SV.oks (fun n => decide (n < k)) args = true) (hF : F.ok (fun n => decide (n < k)) = true) (hN : args.length ≤ 12)
    (h : SW Try.prog 12 k s ⟨argE 0 args, F, k⟩ fun e st' => match e with | .normal => Fin k nk rv Q st' | .ret => Fin k nk rv Q st' | _ => False) : SB Try.prog 38 args F k nk Q :=
  SB.of_body Try.func38 b c r ca hargs hF hN h
end stable_Tracker_none
namespace stable_Tracker_may
abbrev f : Nat := 39
def s : SCo := (.seq
(.reg [⟨(some 3), .box 25 (.t 1), none⟩,
⟨(some 4), .mv (.k (.d (.bool false))), none⟩] (fullB 2) false)
(.seq
(.seq
(.reg [⟨(some 7), .load (some 8) (.t 3), none⟩,
⟨(some 8), .mv (.k (.d (.int .i64 0))), none⟩] (fullB 2) false)
(.block 0
 (.loop
 (.seq
 (.reg [⟨(some 9), .bin .lss (.t 8) (.k (.d (.int .i64 8))), none⟩] (fullB 1) false)
 (.seq
 (.cond (.t 9)
  .skip
  (.exit 0))
 (.seq
  (.block 1
  (.seq
  (.reg [⟨(some 10), .mv (.t 8), none⟩,
⟨(some 11), .index 8 1 false (.t 7) (.t 8), none⟩,
⟨(some 5), .mv (.t 10), none⟩,
⟨(some 6), .mv (.t 11), none⟩] (fullB 4) false)
  (.seq
  (.reg [⟨(some 12), .mv (.t 5), none⟩,
⟨(some 13), .mv (.t 0), none⟩,
⟨(some 14), .nilc (.t 13), none⟩,
⟨(some 15), .fld 0 (.t 14), none⟩,
⟨(some 16), .load none (.t 15), none⟩,
⟨(some 17), .bin .geq (.t 12) (.t 16), none⟩,
⟨(some 18), .mv (.t 17), none⟩,
⟨(some 19), .mv (.t 6), some (18, true)⟩,
⟨(some 20), .bin .gtr (.t 19) (.k (.d (.int .u32 0))), some (18, true)⟩,
⟨(some 21), .pick (.t 18) (.t 20) (.k (.d (.bool false))), none⟩] (fullB 10) false)
  (.cond (.t 21)
   (.seq
   (.reg [⟨(some 4), .mv (.k (.d (.bool false))), none⟩] (fullB 1) false)
   .ret)
   .skip))))
  (.reg [⟨(some 22), .bin .add (.t 8) (.k (.d (.int .i64 1))), none⟩,
⟨(some 8), .mv (.t 22), none⟩] (fullB 2) false)))))))
(.seq
(.reg [⟨(some 4), .mv (.k (.d (.bool true))), none⟩] (fullB 1) false)
.ret)))
def rv : List RV := [.tmp 4]
theorem c : cK Try.prog Try.f39.ntmps (Try.f39.body.getD .ret) = some s := by kernel_rfl
theorem b : Try.f39.body = some (Try.f39.body.getD .ret) := by kernel_rfl
theorem r : cRV Try.prog Try.f39.results.toList = some rv := by kernel_rfl
theorem ca : Callable Try.prog 39 = true := by kernel_rfl
theorem enter {args : List SV} {F : Hp} {k nk : Nat} {Q : SV → Hp → Prop} (hargs : SV.oks (fun n => decide (n < k)) args = true) (hF : F.ok (fun n => decide (n < k)) = true) (hN : args.length ≤ 23)
    (h : SW Try.prog 23 k s ⟨argE 0 args, F, k⟩ fun e st' => match e with | .normal => Fin k nk rv Q st' | .ret => Fin k nk rv Q st' | _ => False) : SB Try.prog 39 args F k nk Q :=
  SB.of_body Try.func39 b c r ca hargs hF hN h
end stable_Tracker_may
namespace vector_Above
abbrev f : Nat := 40
def s : SCo := (.seq
(.reg [⟨(some 2), .box 25 (.t 0), none⟩,
⟨(some 3), .box 25 (.t 1), none⟩,
⟨(some 4), .mv (.k (.d (.bool false))), none⟩] (fullB 3) false)
(.seq
(.reg [⟨(some 5), .load (some 8) (.t 2), none⟩,
⟨(some 6), .load (some 8) (.t 3), none⟩,
⟨(some 7), .bsl 25 8 2 [(.d (.int .u32 0)), (.d (.int .u32 0)), (.d (.int .u32 0)), (.d (.int .u32 0)), (.d (.int .u32 0)), (.d (.int .u32 0)), (.d (.int .u32 0)), (.d (.int .u32 0)), (.d (.int .u32 0)), (.d (.int .u32 0)), (.d (.int .u32 0)), (.d (.int .u32 0)), (.d (.int .u32 0)), (.d (.int .u32 0)), (.d (.int .u32 0)), (.d (.int .u32 0))] [(0, 8, (.t 5)), (8, 8, (.t 6))], none⟩,
⟨(some 8), .call (.k (.fn (.func 87) [] [])) [(.t 7)], none⟩,
⟨(some 9), .load (some 8) (.t 2), none⟩,
⟨(some 10), .eqv false [true, true, true, true, true, true, true, true] (.t 8) (.t 9), none⟩,
⟨(some 4), .mv (.t 10), none⟩] [0,
0,
3,
7,
0,
31,
63] true)
.ret))
def rv : List RV := [.tmp 4]
theorem c : cK Try.prog Try.f40.ntmps (Try.f40.body.getD .ret) = some s := by kernel_rfl
theorem b : Try.f40.body = some (Try.f40.body.getD .ret) := by kernel_rfl
theorem r : cRV Try.prog Try.f40.results.toList = some rv := by kernel_rfl
theorem ca : Callable Try.prog 40 = true := by kernel_rfl
theorem enter {args : List SV} {F : Hp} {k nk : Nat} {Q : SV → Hp → Prop} (hargs : SV.oks (fun n => decide (n < k)) args = true) (hF : F.ok (fun n => decide (n < k)) = true) (hN : args.length ≤ 11)
    (h : SW Try.prog 11 k s ⟨argE 0 args, F, k⟩ fun e st' => match e with | .normal => Fin k nk rv Q st' | .ret => Fin k nk rv Q st' | _ => False) : SB Try.prog 40 args F k nk Q :=
  SB.of_body Try.func40 b c r ca hargs hF hN h
end vector_Above
namespace stable_Tracker_settle
abbrev f : Nat := 41
def s : SCo := (.seq
(.reg [⟨(some 1), .box 27 (.t 0), none⟩] (fullB 1) false)
(.seq
(.reg [⟨(some 4), .mkf (.func 88) [] [(.t 1)], none⟩,
⟨(some 2), .mv (.t 4), none⟩] (fullB 2) false)
(.seq
(.seq
 (.reg [⟨(some 5), .load none (.t 1), none⟩,
⟨(some 6), .nilc (.t 5), none⟩,
⟨(some 7), .fld 0 (.t 6), none⟩,
⟨(some 8), .load none (.t 7), none⟩,
⟨(some 9), .mv (.k (.d (.int .i64 0))), none⟩] (fullB 5) false)
 (.block 0
 (.loop
 (.seq
 (.reg [⟨(some 10), .bin .lss (.t 9) (.t 8), none⟩] (fullB 1) false)
 (.seq
  (.cond (.t 10)
  .skip
  (.exit 0))
  (.seq
  (.block 1
  (.seq
  (.reg [⟨(some 11), .mv (.t 9), none⟩,
⟨(some 3), .mv (.t 11), none⟩] (fullB 2) false)
  (.block 2
   (.loop
   (.seq
   (.seq
   (.reg [⟨(some 12), .mv (.t 2), none⟩,
⟨(some 13), .mv (.t 3), none⟩,
⟨(some 14), .call (.t 12) [(.t 13)], none⟩] (fullB 3) false)
   (.cond (.t 14)
    .skip
    (.exit 2)))
   (.block 3
   .skip))))))
  (.reg [⟨(some 15), .bin .add (.t 9) (.k (.d (.int .i64 1))), none⟩,
⟨(some 9), .mv (.t 15), none⟩] (fullB 2) false)))))))
(.reg [⟨(some 16), .load none (.t 1), none⟩,
⟨(some 17), .load none (.t 1), none⟩,
⟨(some 18), .nilc (.t 17), none⟩,
⟨(some 19), .fld 1 (.t 18), none⟩,
⟨(some 20), .load none (.t 19), none⟩,
⟨(some 21), .load none (.t 1), none⟩,
⟨(some 22), .nilc (.t 21), none⟩,
⟨(some 23), .fld 2 (.t 22), none⟩,
⟨(some 24), .load (some 8) (.t 23), none⟩,
⟨(some 25), .nilc (.t 16), none⟩,
⟨(some 26), .fld 10 (.t 25), none⟩,
⟨(some 27), .idxA 8 8 (.t 26) (.t 20), none⟩,
⟨none, .store 8 (.t 27) (.t 24), none⟩] [0,
0,
2,
6,
14,
0,
32,
96,
224,
1,
513,
2047,
4095] true))))
def rv : List RV := []
theorem c : cK Try.prog Try.f41.ntmps (Try.f41.body.getD .ret) = some s := by kernel_rfl
theorem b : Try.f41.body = some (Try.f41.body.getD .ret) := by kernel_rfl
theorem r : cRV Try.prog Try.f41.results.toList = some rv := by kernel_rfl
theorem ca : Callable Try.prog 41 = true := by kernel_rfl
theorem enter {args : List SV} {F : Hp} {k nk : Nat} {Q : SV → Hp → Prop} (hargs : SV.oks (fun n => decide (n < k)) args = true) (hF : F.ok (fun n => decide (n < k)) = true) (hN : args.length ≤ 28)
    (h : SW Try.prog 28 k s ⟨argE 0 args, F, k⟩ fun e st' => match e with | .normal => Fin k nk rv Q st' | .ret => Fin k nk rv Q st' | _ => False) : SB Try.prog 41 args F k nk Q :=
  SB.of_body Try.func41 b c r ca hargs hF hN h
end stable_Tracker_settle
namespace law12_v
abbrev f : Nat := 42
def s : SCo := (.seq
(.reg [⟨(some 4), .alloc 25 [(.d (.int .u32 0)), (.d (.int .u32 0)), (.d (.int .u32 0)), (.d (.int .u32 0)), (.d (.int .u32 0)), (.d (.int .u32 0)), (.d (.int .u32 0)), (.d (.int .u32 0))], none⟩] (fullB 1) false)
(.seq
(.reg [⟨(some 5), .mv (.t 0), none⟩,
⟨(some 6), .mv (.t 1), none⟩,
⟨(some 7), .bld [(.d (.int .u32 0)), (.d (.int .u32 0)), (.d (.int .u32 0)), (.d (.int .u32 0)), (.d (.int .u32 0)), (.d (.int .u32 0)), (.d (.int .u32 0)), (.d (.int .u32 0))] [(0, 1, (.t 5)), (1, 1, (.t 6))], none⟩,
⟨none, .store 8 (.t 4) (.t 7), none⟩] (fullB 4) false)
.ret))
def rv : List RV := [.cell 4 (some 8)]
theorem c : cK Try.prog Try.f42.ntmps (Try.f42.body.getD .ret) = some s := by kernel_rfl
theorem b : Try.f42.body = some (Try.f42.body.getD .ret) := by kernel_rfl
theorem r : cRV Try.prog Try.f42.results.toList = some rv := by kernel_rfl
theorem ca : Callable Try.prog 42 = true := by kernel_rfl
theorem enter {args : List SV} {F : Hp} {k nk : Nat} {Q : SV → Hp → Prop} (hargs : SV.oks (fun n => decide (n < k)) args = true) (hF : F.ok (fun n => decide (n < k)) = true) (hN : args.length ≤ 8)
    (h : SW Try.prog 8 k s ⟨argE 0 args, F, k⟩ fun e st' => match e with | .normal => Fin k nk rv Q st' | .ret => Fin k nk rv Q st' | _ => False) : SB Try.prog 42 args F k nk Q :=
  SB.of_body Try.func42 b c r ca hargs hF hN h
end law12_v
namespace vector_Meet
abbrev f : Nat := 43
def s : SCo := (.seq
(.reg [⟨(some 2), .alloc 25 [(.d (.int .u32 0)), (.d (.int .u32 0)), (.d (.int .u32 0)), (.d (.int .u32 0)), (.d (.int .u32 0)), (.d (.int .u32 0)), (.d (.int .u32 0)), (.d (.int .u32 0))], none⟩] (fullB 1) false)
(.seq
(.reg [⟨(some 3), .call (.k (.fn (.func 90) [] [])) [(.k (.fn (.func 91) [] []))], none⟩,
⟨(some 4), .mv (.t 0), none⟩,
⟨(some 5), .call (.k (.fn (.func 89) [] [])) [(.t 3), (.t 4)], none⟩,
⟨none, .store 8 (.t 2) (.t 5), none⟩] (fullB 4) false)
.ret))
def rv : List RV := [.cell 2 (some 8)]
theorem c : cK Try.prog Try.f43.ntmps (Try.f43.body.getD .ret) = some s := by kernel_rfl
theorem b : Try.f43.body = some (Try.f43.body.getD .ret) := by kernel_rfl
theorem r : cRV Try.prog Try.f43.results.toList = some rv := by kernel_rfl
theorem ca : Callable Try.prog 43 = true := by kernel_rfl
theorem enter {args : List SV} {F : Hp} {k nk : Nat} {Q : SV → Hp → Prop} (hargs : SV.oks (fun n => decide (n < k)) args = true) (hF : F.ok (fun n => decide (n < k)) = true) (hN : args.length ≤ 6)
    (h : SW Try.prog 6 k s ⟨argE 0 args, F, k⟩ fun e st' => match e with | .normal => Fin k nk rv Q st' | .ret => Fin k nk rv Q st' | _ => False) : SB Try.prog 43 args F k nk Q :=
  SB.of_body Try.func43 b c r ca hargs hF hN h
end vector_Meet
namespace ref03_May
abbrev f : Nat := 44
def s : SCo := (.seq
(.reg [⟨(some 1), .box 37 (.t 0), none⟩,
⟨(some 2), .mv (.k (.d (.bool false))), none⟩] (fullB 2) false)
(.seq
(.reg [⟨(some 3), .fld 0 (.t 1), none⟩,
⟨(some 4), .load none (.t 3), none⟩,
⟨(some 5), .bin .leq (.t 4) (.k (.d (.int .u8 7))), none⟩,
⟨(some 6), .mv (.t 5), none⟩,
⟨(some 7), .fld 1 (.t 1), some (6, true)⟩,
⟨(some 8), .load none (.t 7), some (6, true)⟩,
⟨(some 9), .bin .geq (.t 8) (.k (.d (.int .u32 1))), some (6, true)⟩,
⟨(some 10), .pick (.t 6) (.t 9) (.k (.d (.bool false))), none⟩,
⟨(some 2), .mv (.t 10), none⟩] (fullB 9) false)
.ret))
def rv : List RV := [.tmp 2]
theorem c : cK Try.prog Try.f44.ntmps (Try.f44.body.getD .ret) = some s := by kernel_rfl
theorem b : Try.f44.body = some (Try.f44.body.getD .ret) := by kernel_rfl
theorem r : cRV Try.prog Try.f44.results.toList = some rv := by kernel_rfl
theorem ca : Callable Try.prog 44 = true := by kernel_rfl
theorem enter {args : List SV} {F : Hp} {k nk : Nat} {Q : SV → Hp → Prop} (hargs : SV.oks (fun n => decide (n < k)) args = true) (hF : F.ok (fun n => decide (n < k)) = true) (hN : args.length ≤ 11)
    (h : SW Try.prog 11 k s ⟨argE 0 args, F, k⟩ fun e st' => match e with | .normal => Fin k nk rv Q st' | .ret => Fin k nk rv Q st' | _ => False) : SB Try.prog 44 args F k nk Q :=
  SB.of_body Try.func44 b c r ca hargs hF hN h
end ref03_May
namespace law16_b
end law16_b
namespace law16_g
end law16_g
namespace law16_a
end law16_a
namespace tree_Tree_Above
end tree_Tree_Above
namespace tree_Tree_Why
end tree_Tree_Why
namespace ref10_Find
end ref10_Find
namespace ref10_Compare
end ref10_Compare
namespace slices_DeleteFunc_Lapi_Op_api_Op
end slices_DeleteFunc_Lapi_Op_api_Op
namespace slices_Clone_Lapi_Op_api_Op
end slices_Clone_Lapi_Op_api_Op
namespace tree_New_1
end tree_New_1
namespace tree_Tree_put
end tree_Tree_put
namespace tree_Tree_none
end tree_Tree_none
namespace tree_Tree_up
end tree_Tree_up
namespace ref12_Has
end ref12_Has
namespace ref12_Hear
end ref12_Hear
namespace ref12_Counts
end ref12_Counts
namespace ref12_Stable
end ref12_Stable
namespace ref12_Waits
end ref12_Waits
namespace ref05_zero
abbrev f : Nat := 80
def s : SCo := (.seq
(.reg [⟨(some 1), .box 41 (.t 0), none⟩,
⟨(some 2), .mv (.k (.d (.bool false))), none⟩] (fullB 2) false)
(.seq
(.reg [⟨(some 5), .fld 14 (.t 1), none⟩,
⟨(some 6), .load none (.t 5), none⟩,
⟨(some 7), .call (.k (.fn (.func 81) [] [])) [(.t 6)], none⟩,
⟨(some 3), .mv (.t 7), none⟩] (fullB 4) false)
(.seq
(.reg [⟨(some 8), .bld [(.d (.int .u8 0)), (.d (.int .u32 0))] [], none⟩,
⟨(some 4), .alloc 37 [(.d (.int .u8 0)), (.d (.int .u32 0))], none⟩,
⟨none, .store 2 (.t 4) (.t 8), none⟩] (fullB 3) false)
(.seq
 (.reg (⟨(some 9), .mv (.t 3), none⟩ ::
⟨(some 10), .call (.k (.fn (.func 83) [] [])) [(.t 9), (.k (.d (.int .u8 99)))], none⟩ ::
⟨(some 11), .mv (.t 10), none⟩ ::
⟨(some 12), .fld 15 (.t 1), some (11, false)⟩ ::
⟨(some 13), .load (some 2) (.t 12), some (11, false)⟩ ::
⟨(some 14), .load (some 2) (.t 4), some (11, false)⟩ ::
⟨(some 15), .eqv false [true, true] (.t 13) (.t 14), some (11, false)⟩ ::
⟨(some 16), .pick (.t 11) (.k (.d (.bool true))) (.t 15), none⟩ ::
⟨(some 17), .mv (.t 16), none⟩ ::
⟨(some 18), .mv (.t 3), some (17, true)⟩ ::
⟨(some 19), .call (.k (.fn (.func 83) [] [])) [(.t 18), (.k (.d (.int .u8 116)))], some (17, true)⟩ ::
⟨(some 20), .mv (.t 19), some (17, true)⟩ ::
⟨(some 21), .fld 17 (.t 1), some (20, false)⟩ ::
⟨(some 22), .load none (.t 21), some (20, false)⟩ ::
⟨(some 23), .bin .eql (.t 22) (.k (.d (.int .u32 0))), some (20, false)⟩ ::
⟨(some 24), .pick (.t 20) (.k (.d (.bool true))) (.t 23), some (17, true)⟩ ::
⟨(some 25), .pick (.t 17) (.t 24) (.k (.d (.bool false))), none⟩ ::
⟨(some 26), .mv (.t 25), none⟩ ::
⟨(some 27), .mv (.t 3), some (26, true)⟩ ::
⟨(some 28), .call (.k (.fn (.func 83) [] [])) [(.t 27), (.k (.d (.int .u8 114)))], some (26, true)⟩ ::
⟨(some 29), .mv (.t 28), some (26, true)⟩ ::
⟨(some 30), .fld 18 (.t 1), some (29, false)⟩ ::
⟨(some 31), .load none (.t 30), some (29, false)⟩ ::
⟨(some 32), .bin .eql (.t 31) (.k (.d (.int .u8 0))), some (29, false)⟩ ::
⟨(some 33), .pick (.t 29) (.k (.d (.bool true))) (.t 32), some (26, true)⟩ ::
⟨(some 34), .pick (.t 26) (.t 33) (.k (.d (.bool false))), none⟩ ::
⟨(some 35), .mv (.t 34), none⟩ ::
⟨(some 36), .mv (.t 3), some (35, true)⟩ ::
⟨(some 37), .call (.k (.fn (.func 83) [] [])) [(.t 36), (.k (.d (.int .u8 100)))], some (35, true)⟩ ::
⟨(some 38), .mv (.t 37), some (35, true)⟩ ::
⟨(some 39), .fld 19 (.t 1), some (38, false)⟩ ::
⟨(some 40), .load none (.t 39), some (38, false)⟩ ::
⟨(some 41), .bin .eql (.t 40) (.k (.d (.int .u8 0))), some (38, false)⟩ ::
⟨(some 42), .pick (.t 38) (.k (.d (.bool true))) (.t 41), some (35, true)⟩ ::
⟨(some 43), .pick (.t 35) (.t 42) (.k (.d (.bool false))), none⟩ ::
⟨(some 44), .mv (.t 43), none⟩ ::
⟨(some 45), .mv (.t 3), some (44, true)⟩ ::
⟨(some 46), .call (.k (.fn (.func 83) [] [])) [(.t 45), (.k (.d (.int .u8 112)))], some (44, true)⟩ ::
⟨(some 47), .mv (.t 46), some (44, true)⟩ ::
⟨(some 48), .fld 20 (.t 1), some (47, false)⟩ ::
⟨(some 49), .load none (.t 48), some (47, false)⟩ ::
⟨(some 50), .bin .eql (.t 49) (.k (.d (.int .u64 0))), some (47, false)⟩ ::
⟨(some 51), .pick (.t 47) (.k (.d (.bool true))) (.t 50), some (44, true)⟩ ::
⟨(some 52), .pick (.t 44) (.t 51) (.k (.d (.bool false))), none⟩ ::
⟨(some 53), .mv (.t 52), none⟩ ::
⟨(some 54), .mv (.t 3), some (53, true)⟩ ::
⟨(some 55), .call (.k (.fn (.func 83) [] [])) [(.t 54), (.k (.d (.int .u8 97)))], some (53, true)⟩ ::
⟨(some 56), .mv (.t 55), some (53, true)⟩ ::
⟨(some 57), .fld 21 (.t 1), some (56, false)⟩ ::
⟨(some 58), .load (some 2) (.t 57), some (56, false)⟩ ::
⟨(some 59), .load (some 2) (.t 4), some (56, false)⟩ ::
⟨(some 60), .eqv false [true, true] (.t 58) (.t 59), some (56, false)⟩ ::
⟨(some 61), .pick (.t 56) (.k (.d (.bool true))) (.t 60), some (53, true)⟩ ::
⟨(some 62), .pick (.t 53) (.t 61) (.k (.d (.bool false))), none⟩ ::
⟨(some 63), .mv (.t 62), none⟩ ::
⟨(some 64), .mv (.t 3), some (63, true)⟩ ::
⟨(some 65), .call (.k (.fn (.func 83) [] [])) [(.t 64), (.k (.d (.int .u8 118)))], some (63, true)⟩ ::
⟨(some 66), .mv (.t 65), some (63, true)⟩ ::
⟨(some 67), .fld 23 (.t 1), some (66, false)⟩ ::
⟨(some 68), .load (some 2) (.t 67), some (66, false)⟩ ::
⟨(some 69), .load (some 2) (.t 4), some (66, false)⟩ ::
⟨(some 70), .eqv false [true, true] (.t 68) (.t 69), some (66, false)⟩ ::
⟨(some 71), .pick (.t 66) (.k (.d (.bool true))) (.t 70), some (63, true)⟩ ::
⟨(some 72), .pick (.t 63) (.t 71) (.k (.d (.bool false))), none⟩ ::
⟨(some 73), .mv (.t 72), none⟩ ::
⟨(some 74), .mv (.t 3), some (73, true)⟩ ::
⟨(some 75), .call (.k (.fn (.func 83) [] [])) [(.t 74), (.k (.d (.int .u8 105)))], some (73, true)⟩ ::
⟨(some 76), .mv (.t 75), some (73, true)⟩ ::
⟨(some 77), .fld 25 (.t 1), some (76, false)⟩ ::
⟨(some 78), .load none (.t 77), some (76, false)⟩ ::
⟨(some 79), .bin .eql (.t 78) (.k (.d (.int .u32 0))), some (76, false)⟩ ::
⟨(some 80), .pick (.t 76) (.k (.d (.bool true))) (.t 79), some (73, true)⟩ ::
⟨(some 81), .pick (.t 73) (.t 80) (.k (.d (.bool false))), none⟩ ::
⟨(some 82), .mv (.t 81), none⟩ ::
⟨(some 83), .mv (.t 3), some (82, true)⟩ ::
⟨(some 84), .call (.k (.fn (.func 83) [] [])) [(.t 83), (.k (.d (.int .u8 113)))], some (82, true)⟩ ::
⟨(some 85), .mv (.t 84), some (82, true)⟩ ::
⟨(some 86), .fld 26 (.t 1), some (85, false)⟩ ::
⟨(some 87), .load none (.t 86), some (85, false)⟩ ::
⟨(some 88), .bin .eql (.t 87) (.k (.d (.int .u32 0))), some (85, false)⟩ ::
⟨(some 89), .pick (.t 85) (.k (.d (.bool true))) (.t 88), some (82, true)⟩ ::
⟨(some 90), .pick (.t 82) (.t 89) (.k (.d (.bool false))), none⟩ ::
⟨(some 91), .mv (.t 90), none⟩ ::
⟨(some 92), .mv (.t 3), some (91, true)⟩ ::
⟨(some 93), .call (.k (.fn (.func 83) [] [])) [(.t 92), (.k (.d (.int .u8 101)))], some (91, true)⟩ ::
⟨(some 94), .mv (.t 93), some (91, true)⟩ ::
⟨(some 95), .fld 27 (.t 1), some (94, false)⟩ ::
⟨(some 96), .load none (.t 95), some (94, false)⟩ ::
⟨(some 97), .bin .eql (.t 96) (.k (.d (.int .u32 0))), some (94, false)⟩ ::
⟨(some 98), .pick (.t 94) (.k (.d (.bool true))) (.t 97), some (91, true)⟩ ::
⟨(some 99), .pick (.t 91) (.t 98) (.k (.d (.bool false))), none⟩ ::
⟨(some 100), .mv (.t 99), none⟩ ::
⟨(some 101), .mv (.t 3), some (100, true)⟩ ::
⟨(some 102), .call (.k (.fn (.func 83) [] [])) [(.t 101), (.k (.d (.int .u8 108)))], some (100, true)⟩ ::
⟨(some 103), .mv (.t 102), some (100, true)⟩ ::
⟨(some 104), .fld 28 (.t 1), some (103, false)⟩ ::
⟨(some 105), .load none (.t 104), some (103, false)⟩ ::
⟨(some 106), .len (.t 105), some (103, false)⟩ ::
⟨(some 107), .bin .eql (.t 106) (.k (.d (.int .i64 0))), some (103, false)⟩ ::
⟨(some 108), .pick (.t 103) (.k (.d (.bool true))) (.t 107), some (100, true)⟩ ::
⟨(some 109), .pick (.t 100) (.t 108) (.k (.d (.bool false))), none⟩ ::
⟨(some 2), .mv (.t 109), none⟩ :: []) (fullB 102) false)
 .ret))))
def rv : List RV := [.tmp 2]
theorem c : cK Try.prog Try.f80.ntmps (Try.f80.body.getD .ret) = some s := by kernel_rfl
theorem b : Try.f80.body = some (Try.f80.body.getD .ret) := by kernel_rfl
theorem r : cRV Try.prog Try.f80.results.toList = some rv := by kernel_rfl
theorem ca : Callable Try.prog 80 = true := by kernel_rfl
theorem enter {args : List SV} {F : Hp} {k nk : Nat} {Q : SV → Hp → Prop} (hargs : SV.oks (fun n => decide (n < k)) args = true) (hF : F.ok (fun n => decide (n < k)) = true) (hN : args.length ≤ 110)
    (h : SW Try.prog 110 k s ⟨argE 0 args, F, k⟩ fun e st' => match e with | .normal => Fin k nk rv Q st' | .ret => Fin k nk rv Q st' | _ => False) : SB Try.prog 80 args F k nk Q :=
  SB.of_body Try.func80 b c r ca hargs hF hN h
end ref05_zero
namespace ref05_Has
abbrev f : Nat := 81
def s : SCo := (.seq
(.reg [⟨(some 2), .mv (.k (.d (.str []))), none⟩] (fullB 1) false)
(.seq
(.reg [⟨(some 4), .bsl 9 1 9 [(.d (.str [])), (.d (.str [])), (.d (.str [])), (.d (.str [])), (.d (.str [])), (.d (.str [])), (.d (.str [])), (.d (.str [])), (.d (.str []))] [(0, 1, (.k (.d (.str [])))), (1, 1, (.k (.d (.str [99, 116, 114, 100, 112])))), (2, 1, (.k (.d (.str [99, 97])))), (3, 1, (.k (.d (.str [99, 105, 113, 101])))), (4, 1, (.k (.d (.str [99, 97, 113])))), (5, 1, (.k (.d (.str [99, 97])))), (6, 1, (.k (.d (.str [99, 97, 118])))), (7, 1, (.k (.d (.str [99, 97, 118])))), (8, 1, (.k (.d (.str [99, 108]))))], none⟩,
⟨(some 3), .mv (.t 4), none⟩] (fullB 2) false)
(.seq
(.seq
 (.reg [⟨(some 5), .mv (.t 0), none⟩,
⟨(some 6), .conv .i64 (.t 5), none⟩,
⟨(some 7), .mv (.t 3), none⟩,
⟨(some 8), .len (.t 7), none⟩,
⟨(some 9), .bin .geq (.t 6) (.t 8), none⟩] (fullB 5) false)
 (.cond (.t 9)
 (.seq
 (.reg [⟨(some 2), .mv (.k (.d (.str []))), none⟩] (fullB 1) false)
 .ret)
 .skip))
(.seq
 (.reg [⟨(some 10), .mv (.t 3), none⟩,
⟨(some 11), .mv (.t 0), none⟩,
⟨(some 12), .idxS 1 (.t 10) (.t 11), none⟩,
⟨(some 13), .load none (.t 12), none⟩,
⟨(some 2), .mv (.t 13), none⟩] (fullB 5) false)
 .ret))))
def rv : List RV := [.tmp 2]
theorem c : cK Try.prog Try.f81.ntmps (Try.f81.body.getD .ret) = some s := by kernel_rfl
theorem b : Try.f81.body = some (Try.f81.body.getD .ret) := by kernel_rfl
theorem r : cRV Try.prog Try.f81.results.toList = some rv := by kernel_rfl
theorem ca : Callable Try.prog 81 = true := by kernel_rfl
theorem enter {args : List SV} {F : Hp} {k nk : Nat} {Q : SV → Hp → Prop} (hargs : SV.oks (fun n => decide (n < k)) args = true) (hF : F.ok (fun n => decide (n < k)) = true) (hN : args.length ≤ 14)
    (h : SW Try.prog 14 k s ⟨argE 0 args, F, k⟩ fun e st' => match e with | .normal => Fin k nk rv Q st' | .ret => Fin k nk rv Q st' | _ => False) : SB Try.prog 81 args F k nk Q :=
  SB.of_body Try.func81 b c r ca hargs hF hN h
end ref05_Has
namespace ref05_Covers
abbrev f : Nat := 82
def s : SCo := (.seq
(.reg [⟨(some 2), .box 41 (.t 0), none⟩,
⟨(some 3), .box 37 (.t 1), none⟩,
⟨(some 4), .mv (.k (.d (.bool false))), none⟩] (fullB 3) false)
(.seq
(.reg (⟨(some 5), .fld 0 (.t 3), none⟩ ::
⟨(some 6), .load none (.t 5), none⟩ ::
⟨(some 7), .bin .lss (.t 6) (.k (.d (.int .u8 8))), none⟩ ::
⟨(some 8), .mv (.t 7), none⟩ ::
⟨(some 9), .fld 1 (.t 3), some (8, true)⟩ ::
⟨(some 10), .load none (.t 9), some (8, true)⟩ ::
⟨(some 11), .bin .geq (.t 10) (.k (.d (.int .u32 1))), some (8, true)⟩ ::
⟨(some 12), .pick (.t 8) (.t 11) (.k (.d (.bool false))), none⟩ ::
⟨(some 13), .mv (.t 12), none⟩ ::
⟨(some 14), .fld 0 (.t 3), some (13, true)⟩ ::
⟨(some 15), .load none (.t 14), some (13, true)⟩ ::
⟨(some 16), .fld 2 (.t 2), some (13, true)⟩ ::
⟨(some 17), .idxA 8 1 (.t 16) (.t 15), some (13, true)⟩ ::
⟨(some 18), .load none (.t 17), some (13, true)⟩ ::
⟨(some 19), .fld 1 (.t 3), some (13, true)⟩ ::
⟨(some 20), .load none (.t 19), some (13, true)⟩ ::
⟨(some 21), .bin .geq (.t 18) (.t 20), some (13, true)⟩ ::
⟨(some 22), .pick (.t 13) (.t 21) (.k (.d (.bool false))), none⟩ ::
⟨(some 4), .mv (.t 22), none⟩ :: []) (0 ::
1 ::
3 ::
7 ::
15 ::
31 ::
63 ::
127 ::
255 ::
511 ::
1023 ::
511 ::
4095 ::
8191 ::
511 ::
16895 ::
65535 ::
131071 ::
262143 :: []) true)
.ret))
def rv : List RV := [.tmp 4]
theorem c : cK Try.prog Try.f82.ntmps (Try.f82.body.getD .ret) = some s := by kernel_rfl
theorem b : Try.f82.body = some (Try.f82.body.getD .ret) := by kernel_rfl
theorem r : cRV Try.prog Try.f82.results.toList = some rv := by kernel_rfl
theorem ca : Callable Try.prog 82 = true := by kernel_rfl
theorem enter {args : List SV} {F : Hp} {k nk : Nat} {Q : SV → Hp → Prop} (hargs : SV.oks (fun n => decide (n < k)) args = true) (hF : F.ok (fun n => decide (n < k)) = true) (hN : args.length ≤ 23)
    (h : SW Try.prog 23 k s ⟨argE 0 args, F, k⟩ fun e st' => match e with | .normal => Fin k nk rv Q st' | .ret => Fin k nk rv Q st' | _ => False) : SB Try.prog 82 args F k nk Q :=
  SB.of_body Try.func82 b c r ca hargs hF hN h
end ref05_Covers
namespace ref05_in
abbrev f : Nat := 83
def s : SCo := (.seq
(.reg [⟨(some 4), .mv (.k (.d (.bool false))), none⟩] (fullB 1) false)
(.seq
(.seq
(.reg [⟨(some 5), .mv (.k (.d (.int .i64 0))), none⟩] (fullB 1) false)
(.block 0
 (.loop
 (.seq
 (.seq
 (.reg [⟨(some 6), .mv (.t 5), none⟩,
⟨(some 7), .mv (.t 0), none⟩,
⟨(some 8), .lens (.t 7), none⟩,
⟨(some 9), .bin .lss (.t 6) (.t 8), none⟩] (fullB 4) false)
 (.cond (.t 9)
  .skip
  (.exit 0)))
 (.seq
 (.block 1
  (.seq
  (.reg [⟨(some 12), .mv (.t 0), none⟩,
⟨(some 13), .mv (.t 5), none⟩,
⟨(some 14), .idxT (.t 12) (.t 13), none⟩,
⟨(some 15), .mv (.t 1), none⟩,
⟨(some 16), .bin .eql (.t 14) (.t 15), none⟩] (fullB 5) false)
  (.cond (.t 16)
  (.seq
  (.reg [⟨(some 4), .mv (.k (.d (.bool true))), none⟩] (fullB 1) false)
  .ret)
  .skip)))
 (.reg [⟨(some 10), .mv (.t 5), none⟩,
⟨(some 11), .bin .add (.t 10) (.k (.d (.int .i64 1))), none⟩,
⟨(some 5), .mv (.t 11), none⟩] (fullB 3) false))))))
(.seq
(.reg [⟨(some 4), .mv (.k (.d (.bool false))), none⟩] (fullB 1) false)
.ret)))
def rv : List RV := [.tmp 4]
theorem c : cK Try.prog Try.f83.ntmps (Try.f83.body.getD .ret) = some s := by kernel_rfl
theorem b : Try.f83.body = some (Try.f83.body.getD .ret) := by kernel_rfl
theorem r : cRV Try.prog Try.f83.results.toList = some rv := by kernel_rfl
theorem ca : Callable Try.prog 83 = true := by kernel_rfl
theorem enter {args : List SV} {F : Hp} {k nk : Nat} {Q : SV → Hp → Prop} (hargs : SV.oks (fun n => decide (n < k)) args = true) (hF : F.ok (fun n => decide (n < k)) = true) (hN : args.length ≤ 17)
    (h : SW Try.prog 17 k s ⟨argE 0 args, F, k⟩ fun e st' => match e with | .normal => Fin k nk rv Q st' | .ret => Fin k nk rv Q st' | _ => False) : SB Try.prog 83 args F k nk Q :=
  SB.of_body Try.func83 b c r ca hargs hF hN h
end ref05_in
namespace ref05_lines
abbrev f : Nat := 84
def s : SCo := (.seq
(.reg [⟨(some 1), .box 41 (.t 0), none⟩,
⟨(some 2), .mv (.k (.d (.bool false))), none⟩] (fullB 2) false)
(.seq
(.seq
(.reg [⟨(some 5), .fld 28 (.t 1), none⟩,
⟨(some 6), .load none (.t 5), none⟩,
⟨(some 7), .len (.t 6), none⟩,
⟨(some 8), .bin .lss (.t 7) (.k (.d (.int .i64 1))), none⟩,
⟨(some 9), .mv (.t 8), none⟩,
⟨(some 10), .fld 28 (.t 1), some (9, false)⟩,
⟨(some 11), .load none (.t 10), some (9, false)⟩,
⟨(some 12), .len (.t 11), some (9, false)⟩,
⟨(some 13), .bin .gtr (.t 12) (.k (.d (.int .i64 16))), some (9, false)⟩,
⟨(some 14), .pick (.t 9) (.k (.d (.bool true))) (.t 13), none⟩] (fullB 10) false)
(.cond (.t 14)
 (.seq
 (.reg [⟨(some 2), .mv (.k (.d (.bool false))), none⟩] (fullB 1) false)
 .ret)
 .skip))
(.seq
(.seq
 (.reg [⟨(some 3), .mv (.k (.d (.int .i64 0))), none⟩] (fullB 1) false)
 (.block 0
 (.loop
 (.seq
 (.seq
  (.reg [⟨(some 15), .mv (.t 3), none⟩,
⟨(some 16), .fld 28 (.t 1), none⟩,
⟨(some 17), .load none (.t 16), none⟩,
⟨(some 18), .len (.t 17), none⟩,
⟨(some 19), .bin .lss (.t 15) (.t 18), none⟩] (fullB 5) false)
  (.cond (.t 19)
  .skip
  (.exit 0)))
 (.seq
  (.block 1
  (.seq
  (.seq
  (.reg (⟨(some 22), .load (some 29) (.t 1), none⟩ ::
⟨(some 23), .fld 28 (.t 1), none⟩ ::
⟨(some 24), .load none (.t 23), none⟩ ::
⟨(some 25), .mv (.t 3), none⟩ ::
⟨(some 26), .idxS 4 (.t 24) (.t 25), none⟩ ::
⟨(some 27), .fld 0 (.t 26), none⟩ ::
⟨(some 28), .load (some 2) (.t 27), none⟩ ::
⟨(some 29), .call (.k (.fn (.func 82) [] [])) [(.t 22), (.t 28)], none⟩ ::
⟨(some 30), .not (.t 29), none⟩ ::
⟨(some 31), .mv (.t 30), none⟩ ::
⟨(some 32), .load (some 29) (.t 1), some (31, false)⟩ ::
⟨(some 33), .fld 28 (.t 1), some (31, false)⟩ ::
⟨(some 34), .load none (.t 33), some (31, false)⟩ ::
⟨(some 35), .mv (.t 3), some (31, false)⟩ ::
⟨(some 36), .idxS 4 (.t 34) (.t 35), some (31, false)⟩ ::
⟨(some 37), .fld 2 (.t 36), some (31, false)⟩ ::
⟨(some 38), .load (some 2) (.t 37), some (31, false)⟩ ::
⟨(some 39), .call (.k (.fn (.func 82) [] [])) [(.t 32), (.t 38)], some (31, false)⟩ ::
⟨(some 40), .not (.t 39), some (31, false)⟩ ::
⟨(some 41), .pick (.t 31) (.k (.d (.bool true))) (.t 40), none⟩ :: []) (0 ::
0 ::
2 ::
0 ::
14 ::
30 ::
62 ::
127 ::
255 ::
511 ::
1023 ::
1023 ::
3071 ::
1023 ::
15359 ::
31743 ::
64511 ::
131071 ::
262143 ::
524287 :: []) true)
  (.cond (.t 41)
   (.seq
   (.reg [⟨(some 2), .mv (.k (.d (.bool false))), none⟩] (fullB 1) false)
   .ret)
   .skip))
  (.seq
  (.reg [⟨(some 4), .mv (.k (.d (.int .i64 0))), none⟩] (fullB 1) false)
  (.block 2
   (.loop
   (.seq
   (.seq
   (.reg [⟨(some 42), .mv (.t 4), none⟩,
⟨(some 43), .mv (.t 3), none⟩,
⟨(some 44), .bin .lss (.t 42) (.t 43), none⟩] (fullB 3) false)
   (.cond (.t 44)
    .skip
    (.exit 2)))
   (.seq
   (.block 3
    (.seq
    (.reg [⟨(some 47), .fld 28 (.t 1), none⟩,
⟨(some 48), .load none (.t 47), none⟩,
⟨(some 49), .mv (.t 4), none⟩,
⟨(some 50), .idxS 4 (.t 48) (.t 49), none⟩,
⟨(some 51), .fld 0 (.t 50), none⟩,
⟨(some 52), .load (some 2) (.t 51), none⟩,
⟨(some 53), .fld 28 (.t 1), none⟩,
⟨(some 54), .load none (.t 53), none⟩,
⟨(some 55), .mv (.t 3), none⟩,
⟨(some 56), .idxS 4 (.t 54) (.t 55), none⟩,
⟨(some 57), .fld 0 (.t 56), none⟩,
⟨(some 58), .load (some 2) (.t 57), none⟩,
⟨(some 59), .eqv false [true, true] (.t 52) (.t 58), none⟩] [0,
1,
0,
7,
15,
31,
0,
64,
0,
448,
960,
1984,
4095] true)
    (.cond (.t 59)
    (.seq
    (.reg [⟨(some 2), .mv (.k (.d (.bool false))), none⟩] (fullB 1) false)
    .ret)
    .skip)))
   (.reg [⟨(some 45), .mv (.t 4), none⟩,
⟨(some 46), .bin .add (.t 45) (.k (.d (.int .i64 1))), none⟩,
⟨(some 4), .mv (.t 46), none⟩] (fullB 3) false))))))))
  (.reg [⟨(some 20), .mv (.t 3), none⟩,
⟨(some 21), .bin .add (.t 20) (.k (.d (.int .i64 1))), none⟩,
⟨(some 3), .mv (.t 21), none⟩] (fullB 3) false))))))
(.seq
 (.reg [⟨(some 2), .mv (.k (.d (.bool true))), none⟩] (fullB 1) false)
 .ret))))
def rv : List RV := [.tmp 2]
theorem c : cK Try.prog Try.f84.ntmps (Try.f84.body.getD .ret) = some s := by kernel_rfl
theorem b : Try.f84.body = some (Try.f84.body.getD .ret) := by kernel_rfl
theorem r : cRV Try.prog Try.f84.results.toList = some rv := by kernel_rfl
theorem ca : Callable Try.prog 84 = true := by kernel_rfl
theorem enter {args : List SV} {F : Hp} {k nk : Nat} {Q : SV → Hp → Prop} (hargs : SV.oks (fun n => decide (n < k)) args = true) (hF : F.ok (fun n => decide (n < k)) = true) (hN : args.length ≤ 60)
    (h : SW Try.prog 60 k s ⟨argE 0 args, F, k⟩ fun e st' => match e with | .normal => Fin k nk rv Q st' | .ret => Fin k nk rv Q st' | _ => False) : SB Try.prog 84 args F k nk Q :=
  SB.of_body Try.func84 b c r ca hargs hF hN h
end ref05_lines
namespace ref10_there
abbrev f : Nat := 85
def s : SCo := (.seq
(.reg [⟨(some 3), .box 37 (.t 1), none⟩,
⟨(some 4), .mv (.k (.d (.int .i64 0))), none⟩] (fullB 2) false)
(.seq
(.reg [⟨(some 5), .mv (.k (.d (.int .i64 0))), none⟩] (fullB 1) false)
(.seq
(.seq
 (.reg [⟨(some 6), .mv (.k (.d (.int .i64 0))), none⟩] (fullB 1) false)
 (.block 0
 (.loop
 (.seq
 (.seq
  (.reg [⟨(some 7), .mv (.t 6), none⟩,
⟨(some 8), .mv (.t 0), none⟩,
⟨(some 9), .len (.t 8), none⟩,
⟨(some 10), .bin .lss (.t 7) (.t 9), none⟩] (fullB 4) false)
  (.cond (.t 10)
  .skip
  (.exit 0)))
 (.seq
  (.block 1
  (.seq
  (.reg [⟨(some 13), .mv (.t 0), none⟩,
⟨(some 14), .mv (.t 6), none⟩,
⟨(some 15), .idxS 29 (.t 13) (.t 14), none⟩,
⟨(some 16), .fld 0 (.t 15), none⟩,
⟨(some 17), .load (some 2) (.t 16), none⟩,
⟨(some 18), .load (some 2) (.t 3), none⟩,
⟨(some 19), .eqv false [true, true] (.t 17) (.t 18), none⟩] [0,
0,
3,
7,
15,
0,
63] true)
  (.cond (.t 19)
  (.reg [⟨(some 20), .mv (.t 5), none⟩,
⟨(some 21), .bin .add (.t 20) (.k (.d (.int .i64 1))), none⟩,
⟨(some 5), .mv (.t 21), none⟩] (fullB 3) false)
  .skip)))
  (.reg [⟨(some 11), .mv (.t 6), none⟩,
⟨(some 12), .bin .add (.t 11) (.k (.d (.int .i64 1))), none⟩,
⟨(some 6), .mv (.t 12), none⟩] (fullB 3) false))))))
(.seq
 (.reg [⟨(some 22), .mv (.t 5), none⟩,
⟨(some 4), .mv (.t 22), none⟩] (fullB 2) false)
 .ret))))
def rv : List RV := [.tmp 4]
theorem c : cK Try.prog Try.f85.ntmps (Try.f85.body.getD .ret) = some s := by kernel_rfl
theorem b : Try.f85.body = some (Try.f85.body.getD .ret) := by kernel_rfl
theorem r : cRV Try.prog Try.f85.results.toList = some rv := by kernel_rfl
theorem ca : Callable Try.prog 85 = true := by kernel_rfl
theorem enter {args : List SV} {F : Hp} {k nk : Nat} {Q : SV → Hp → Prop} (hargs : SV.oks (fun n => decide (n < k)) args = true) (hF : F.ok (fun n => decide (n < k)) = true) (hN : args.length ≤ 23)
    (h : SW Try.prog 23 k s ⟨argE 0 args, F, k⟩ fun e st' => match e with | .normal => Fin k nk rv Q st' | .ret => Fin k nk rv Q st' | _ => False) : SB Try.prog 85 args F k nk Q :=
  SB.of_body Try.func85 b c r ca hargs hF hN h
end ref10_there
namespace ref10_Before
abbrev f : Nat := 86
def s : SCo := (.seq
(.reg [⟨(some 2), .box 41 (.t 0), none⟩,
⟨(some 3), .box 41 (.t 1), none⟩,
⟨(some 4), .mv (.k (.d (.bool false))), none⟩] (fullB 3) false)
(.seq
(.reg [⟨(some 5), .fld 2 (.t 3), none⟩,
⟨(some 6), .load (some 8) (.t 5), none⟩,
⟨(some 7), .fld 0 (.t 2), none⟩,
⟨(some 8), .load (some 2) (.t 7), none⟩,
⟨(some 9), .call (.k (.fn (.func 17) [] [])) [(.t 6), (.t 8)], none⟩,
⟨(some 4), .mv (.t 9), none⟩] (fullB 6) false)
.ret))
def rv : List RV := [.tmp 4]
theorem c : cK Try.prog Try.f86.ntmps (Try.f86.body.getD .ret) = some s := by kernel_rfl
theorem b : Try.f86.body = some (Try.f86.body.getD .ret) := by kernel_rfl
theorem r : cRV Try.prog Try.f86.results.toList = some rv := by kernel_rfl
theorem ca : Callable Try.prog 86 = true := by kernel_rfl
theorem enter {args : List SV} {F : Hp} {k nk : Nat} {Q : SV → Hp → Prop} (hargs : SV.oks (fun n => decide (n < k)) args = true) (hF : F.ok (fun n => decide (n < k)) = true) (hN : args.length ≤ 10)
    (h : SW Try.prog 10 k s ⟨argE 0 args, F, k⟩ fun e st' => match e with | .normal => Fin k nk rv Q st' | .ret => Fin k nk rv Q st' | _ => False) : SB Try.prog 86 args F k nk Q :=
  SB.of_body Try.func86 b c r ca hargs hF hN h
end ref10_Before
namespace vector_Merge
abbrev f : Nat := 87
def s : SCo := (.seq
(.reg [⟨(some 2), .alloc 25 [(.d (.int .u32 0)), (.d (.int .u32 0)), (.d (.int .u32 0)), (.d (.int .u32 0)), (.d (.int .u32 0)), (.d (.int .u32 0)), (.d (.int .u32 0)), (.d (.int .u32 0))], none⟩] (fullB 1) false)
(.seq
(.reg [⟨(some 3), .call (.k (.fn (.func 90) [] [])) [(.k (.fn (.func 111) [] []))], none⟩,
⟨(some 4), .mv (.t 0), none⟩,
⟨(some 5), .call (.k (.fn (.func 89) [] [])) [(.t 3), (.t 4)], none⟩,
⟨none, .store 8 (.t 2) (.t 5), none⟩] (fullB 4) false)
.ret))
def rv : List RV := [.cell 2 (some 8)]
theorem c : cK Try.prog Try.f87.ntmps (Try.f87.body.getD .ret) = some s := by kernel_rfl
theorem b : Try.f87.body = some (Try.f87.body.getD .ret) := by kernel_rfl
theorem r : cRV Try.prog Try.f87.results.toList = some rv := by kernel_rfl
theorem ca : Callable Try.prog 87 = true := by kernel_rfl
theorem enter {args : List SV} {F : Hp} {k nk : Nat} {Q : SV → Hp → Prop} (hargs : SV.oks (fun n => decide (n < k)) args = true) (hF : F.ok (fun n => decide (n < k)) = true) (hN : args.length ≤ 6)
    (h : SW Try.prog 6 k s ⟨argE 0 args, F, k⟩ fun e st' => match e with | .normal => Fin k nk rv Q st' | .ret => Fin k nk rv Q st' | _ => False) : SB Try.prog 87 args F k nk Q :=
  SB.of_body Try.func87 b c r ca hargs hF hN h
end vector_Merge
namespace stable_Tracker_settle_1
abbrev f : Nat := 88
def s : SCo := (.seq
(.reg [⟨(some 3), .mv (.k (.d (.bool false))), none⟩] (fullB 1) false)
(.seq
(.reg [⟨(some 4), .mv (.k (.d (.bool false))), none⟩] (fullB 1) false)
(.seq
(.seq
 (.reg [⟨(some 6), .load none (.t 1), none⟩,
⟨(some 7), .mv (.t 0), none⟩,
⟨(some 8), .nilc (.t 6), none⟩,
⟨(some 9), .fld 74 (.t 8), none⟩,
⟨(some 10), .idxA 8 1 (.t 9) (.t 7), none⟩,
⟨(some 11), .load none (.t 10), none⟩,
⟨(some 12), .mrange (.t 11), none⟩] (fullB 7) false)
 (.block 0
 (.loop
 (.seq
 (.reg [⟨(some 13), .mnext (.t 12), none⟩,
⟨(some 14), .ext 0 (.t 13), none⟩] (fullB 2) false)
 (.seq
  (.cond (.t 14)
  .skip
  (.exit 0))
  (.block 1
  (.seq
  (.reg [⟨(some 15), .mentry (.t 12), none⟩,
⟨(some 16), .ext 0 (.t 15), none⟩,
⟨(some 5), .alloc 25 [(.d (.int .u32 0)), (.d (.int .u32 0)), (.d (.int .u32 0)), (.d (.int .u32 0)), (.d (.int .u32 0)), (.d (.int .u32 0)), (.d (.int .u32 0)), (.d (.int .u32 0))], none⟩,
⟨none, .store 8 (.t 5) (.t 16), none⟩] (fullB 4) false)
  (.seq
  (.block 2
   (.seq
   (.reg [⟨(some 18), .mv (.t 0), none⟩,
⟨(some 19), .idxA 8 1 (.t 5) (.t 18), none⟩,
⟨(some 20), .load none (.t 19), none⟩,
⟨(some 21), .load none (.t 1), none⟩,
⟨(some 22), .mv (.t 0), none⟩,
⟨(some 23), .nilc (.t 21), none⟩,
⟨(some 24), .fld 2 (.t 23), none⟩,
⟨(some 25), .idxA 8 1 (.t 24) (.t 22), none⟩,
⟨(some 26), .load none (.t 25), none⟩,
⟨(some 27), .bin .leq (.t 20) (.t 26), none⟩,
⟨(some 17), .mv (.t 27), none⟩] [0,
1,
3,
0,
0,
8,
40,
120,
248,
511,
1023] true)
   (.cond (.t 17)
   (.reg [⟨(some 28), .load none (.t 1), none⟩,
⟨(some 29), .mv (.t 0), none⟩,
⟨(some 30), .load none (.t 1), none⟩,
⟨(some 31), .mv (.t 0), none⟩,
⟨(some 32), .nilc (.t 30), none⟩,
⟨(some 33), .fld 10 (.t 32), none⟩,
⟨(some 34), .idxA 8 8 (.t 33) (.t 31), none⟩,
⟨(some 35), .load (some 8) (.t 34), none⟩,
⟨(some 36), .load (some 8) (.t 5), none⟩,
⟨(some 37), .bsl 25 8 2 [(.d (.int .u32 0)), (.d (.int .u32 0)), (.d (.int .u32 0)), (.d (.int .u32 0)), (.d (.int .u32 0)), (.d (.int .u32 0)), (.d (.int .u32 0)), (.d (.int .u32 0)), (.d (.int .u32 0)), (.d (.int .u32 0)), (.d (.int .u32 0)), (.d (.int .u32 0)), (.d (.int .u32 0)), (.d (.int .u32 0)), (.d (.int .u32 0)), (.d (.int .u32 0))] [(0, 8, (.t 35)), (8, 8, (.t 36))], none⟩,
⟨(some 38), .call (.k (.fn (.func 87) [] [])) [(.t 37)], none⟩,
⟨(some 39), .nilc (.t 28), none⟩,
⟨(some 40), .fld 10 (.t 39), none⟩,
⟨(some 41), .idxA 8 8 (.t 40) (.t 29), none⟩,
⟨none, .store 8 (.t 41) (.t 38), none⟩] [0,
0,
0,
0,
4,
20,
60,
124,
0,
508,
1020,
1,
2049,
8191,
16383] true)
   (.seq
   (.reg [⟨(some 43), .load none (.t 1), none⟩,
⟨(some 44), .mv (.t 0), none⟩,
⟨(some 45), .nilc (.t 43), none⟩,
⟨(some 46), .fld 10 (.t 45), none⟩,
⟨(some 47), .idxA 8 8 (.t 46) (.t 44), none⟩,
⟨(some 48), .load (some 8) (.t 47), none⟩,
⟨(some 49), .load (some 8) (.t 5), none⟩,
⟨(some 50), .call (.k (.fn (.func 40) [] [])) [(.t 48), (.t 49)], none⟩,
⟨(some 51), .not (.t 50), none⟩,
⟨(some 42), .mv (.t 51), none⟩] [0,
0,
1,
5,
15,
31,
0,
127,
255,
511] true)
   (.cond (.t 42)
    (.exit 1)
    .skip)))))
  (.seq
   (.reg [⟨(some 52), .load none (.t 1), none⟩,
⟨(some 53), .mv (.t 0), none⟩,
⟨(some 54), .nilc (.t 52), none⟩,
⟨(some 55), .fld 74 (.t 54), none⟩,
⟨(some 56), .idxA 8 1 (.t 55) (.t 53), none⟩,
⟨(some 57), .load none (.t 56), none⟩,
⟨(some 58), .load (some 8) (.t 5), none⟩,
⟨none, .mdel [true, true, true, true, true, true, true, true] true (.t 57) (.t 58), none⟩] [0,
0,
1,
5,
15,
31,
0,
127] true)
   (.reg [⟨(some 4), .mv (.k (.d (.bool true))), none⟩] (fullB 1) false))))))))))
(.seq
 (.reg [⟨(some 59), .mv (.t 4), none⟩,
⟨(some 3), .mv (.t 59), none⟩] (fullB 2) false)
 .ret))))
def rv : List RV := [.tmp 3]
theorem c : cK Try.prog Try.f88.ntmps (Try.f88.body.getD .ret) = some s := by kernel_rfl
theorem b : Try.f88.body = some (Try.f88.body.getD .ret) := by kernel_rfl
theorem r : cRV Try.prog Try.f88.results.toList = some rv := by kernel_rfl
theorem ca : Callable Try.prog 88 = true := by kernel_rfl
theorem enter {args : List SV} {F : Hp} {k nk : Nat} {Q : SV → Hp → Prop} (hargs : SV.oks (fun n => decide (n < k)) args = true) (hF : F.ok (fun n => decide (n < k)) = true) (hN : args.length ≤ 60)
    (h : SW Try.prog 60 k s ⟨argE 0 args, F, k⟩ fun e st' => match e with | .normal => Fin k nk rv Q st' | .ret => Fin k nk rv Q st' | _ => False) : SB Try.prog 88 args F k nk Q :=
  SB.of_body Try.func88 b c r ca hargs hF hN h
end stable_Tracker_settle_1
namespace vector_all_api_Vector
abbrev f : Nat := 89
def s : SCo := (.seq
(.reg [⟨(some 4), .alloc 25 [(.d (.int .u32 0)), (.d (.int .u32 0)), (.d (.int .u32 0)), (.d (.int .u32 0)), (.d (.int .u32 0)), (.d (.int .u32 0)), (.d (.int .u32 0)), (.d (.int .u32 0))], none⟩] (fullB 1) false)
(.seq
(.seq
(.reg [⟨(some 7), .mv (.t 1), none⟩,
⟨(some 8), .len (.t 7), none⟩,
⟨(some 9), .mv (.k (.d (.int .i64 0))), none⟩] (fullB 3) false)
(.block 0
 (.loop
 (.seq
 (.reg [⟨(some 10), .bin .lss (.t 9) (.t 8), none⟩] (fullB 1) false)
 (.seq
 (.cond (.t 10)
  .skip
  (.exit 0))
 (.seq
  (.block 1
  (.seq
  (.reg [⟨(some 11), .mv (.t 9), none⟩,
⟨(some 12), .idxS 8 (.t 7) (.t 9), none⟩,
⟨(some 13), .load (some 8) (.t 12), none⟩,
⟨(some 6), .alloc 25 [(.d (.int .u32 0)), (.d (.int .u32 0)), (.d (.int .u32 0)), (.d (.int .u32 0)), (.d (.int .u32 0)), (.d (.int .u32 0)), (.d (.int .u32 0)), (.d (.int .u32 0))], none⟩,
⟨(some 5), .mv (.t 11), none⟩,
⟨none, .store 8 (.t 6) (.t 13), none⟩] (fullB 6) false)
  (.seq
  (.reg [⟨(some 14), .mv (.t 0), none⟩,
⟨(some 15), .load (some 8) (.t 4), none⟩,
⟨(some 16), .load (some 8) (.t 6), none⟩,
⟨(some 17), .call (.t 14) [(.t 15), (.t 16)], none⟩,
⟨none, .store 8 (.t 4) (.t 17), none⟩] (fullB 5) false)
  (.seq
   (.reg [⟨(some 18), .mv (.t 5), none⟩,
⟨(some 19), .bin .eql (.t 18) (.k (.d (.int .i64 0))), none⟩] (fullB 2) false)
   (.cond (.t 19)
   (.reg [⟨(some 20), .load (some 8) (.t 6), none⟩,
⟨none, .store 8 (.t 4) (.t 20), none⟩] (fullB 2) false)
   .skip)))))
  (.reg [⟨(some 21), .bin .add (.t 9) (.k (.d (.int .i64 1))), none⟩,
⟨(some 9), .mv (.t 21), none⟩] (fullB 2) false)))))))
(.seq
(.reg [⟨(some 22), .load (some 8) (.t 4), none⟩,
⟨none, .store 8 (.t 4) (.t 22), none⟩] (fullB 2) false)
.ret)))
def rv : List RV := [.cell 4 (some 8)]
theorem c : cK Try.prog Try.f89.ntmps (Try.f89.body.getD .ret) = some s := by kernel_rfl
theorem b : Try.f89.body = some (Try.f89.body.getD .ret) := by kernel_rfl
theorem r : cRV Try.prog Try.f89.results.toList = some rv := by kernel_rfl
theorem ca : Callable Try.prog 89 = true := by kernel_rfl
theorem enter {args : List SV} {F : Hp} {k nk : Nat} {Q : SV → Hp → Prop} (hargs : SV.oks (fun n => decide (n < k)) args = true) (hF : F.ok (fun n => decide (n < k)) = true) (hN : args.length ≤ 23)
    (h : SW Try.prog 23 k s ⟨argE 0 args, F, k⟩ fun e st' => match e with | .normal => Fin k nk rv Q st' | .ret => Fin k nk rv Q st' | _ => False) : SB Try.prog 89 args F k nk Q :=
  SB.of_body Try.func89 b c r ca hargs hF hN h
end vector_all_api_Vector
namespace vector_each
abbrev f : Nat := 90
def s : SCo := (.seq
(.reg [⟨(some 1), .box 139 (.t 0), none⟩,
⟨(some 2), .mv (.k (.d .nilf)), none⟩] (fullB 2) false)
(.seq
(.reg [⟨(some 3), .mkf (.func 112) [] [(.t 1)], none⟩,
⟨(some 2), .mv (.t 3), none⟩] (fullB 2) false)
.ret))
def rv : List RV := [.tmp 2]
theorem c : cK Try.prog Try.f90.ntmps (Try.f90.body.getD .ret) = some s := by kernel_rfl
theorem b : Try.f90.body = some (Try.f90.body.getD .ret) := by kernel_rfl
theorem r : cRV Try.prog Try.f90.results.toList = some rv := by kernel_rfl
theorem ca : Callable Try.prog 90 = true := by kernel_rfl
theorem enter {args : List SV} {F : Hp} {k nk : Nat} {Q : SV → Hp → Prop} (hargs : SV.oks (fun n => decide (n < k)) args = true) (hF : F.ok (fun n => decide (n < k)) = true) (hN : args.length ≤ 4)
    (h : SW Try.prog 4 k s ⟨argE 0 args, F, k⟩ fun e st' => match e with | .normal => Fin k nk rv Q st' | .ret => Fin k nk rv Q st' | _ => False) : SB Try.prog 90 args F k nk Q :=
  SB.of_body Try.func90 b c r ca hargs hF hN h
end vector_each
namespace vector_Meet_1
abbrev f : Nat := 91
def s : SCo := (.seq
(.reg [⟨(some 4), .mv (.k (.d (.int .u32 0))), none⟩] (fullB 1) false)
(.seq
(.reg [⟨(some 5), .mv (.t 0), none⟩,
⟨(some 6), .mv (.t 1), none⟩,
⟨(some 7), .mn (.t 5) (.t 6), none⟩,
⟨(some 4), .mv (.t 7), none⟩] (fullB 4) false)
.ret))
def rv : List RV := [.tmp 4]
theorem c : cK Try.prog Try.f91.ntmps (Try.f91.body.getD .ret) = some s := by kernel_rfl
theorem b : Try.f91.body = some (Try.f91.body.getD .ret) := by kernel_rfl
theorem r : cRV Try.prog Try.f91.results.toList = some rv := by kernel_rfl
theorem ca : Callable Try.prog 91 = true := by kernel_rfl
theorem enter {args : List SV} {F : Hp} {k nk : Nat} {Q : SV → Hp → Prop} (hargs : SV.oks (fun n => decide (n < k)) args = true) (hF : F.ok (fun n => decide (n < k)) = true) (hN : args.length ≤ 8)
    (h : SW Try.prog 8 k s ⟨argE 0 args, F, k⟩ fun e st' => match e with | .normal => Fin k nk rv Q st' | .ret => Fin k nk rv Q st' | _ => False) : SB Try.prog 91 args F k nk Q :=
  SB.of_body Try.func91 b c r ca hargs hF hN h
end vector_Meet_1
namespace tree_Tree_Why_1
end tree_Tree_Why_1
namespace tree_Tree_Why_2
end tree_Tree_Why_2
namespace order_Before
end order_Before
namespace tree_Tree_Why_3
end tree_Tree_Why_3
namespace tree_Tree_Why_4
end tree_Tree_Why_4
namespace tree_Tree_Why_5
end tree_Tree_Why_5
namespace ref03_Compare
end ref03_Compare
namespace slices_IndexFunc_Lapi_Op_api_Op
end slices_IndexFunc_Lapi_Op_api_Op
namespace tree_Tree_up_1
end tree_Tree_up_1
namespace ref12_May
end ref12_May
namespace ref04_Merge
end ref04_Merge
namespace ref04_Meet
end ref04_Meet
namespace vector_Merge_1
abbrev f : Nat := 111
def s : SCo := (.seq
(.reg [⟨(some 4), .mv (.k (.d (.int .u32 0))), none⟩] (fullB 1) false)
(.seq
(.reg [⟨(some 5), .mv (.t 0), none⟩,
⟨(some 6), .mv (.t 1), none⟩,
⟨(some 7), .mx (.t 5) (.t 6), none⟩,
⟨(some 4), .mv (.t 7), none⟩] (fullB 4) false)
.ret))
def rv : List RV := [.tmp 4]
theorem c : cK Try.prog Try.f111.ntmps (Try.f111.body.getD .ret) = some s := by kernel_rfl
theorem b : Try.f111.body = some (Try.f111.body.getD .ret) := by kernel_rfl
theorem r : cRV Try.prog Try.f111.results.toList = some rv := by kernel_rfl
theorem ca : Callable Try.prog 111 = true := by kernel_rfl
theorem enter {args : List SV} {F : Hp} {k nk : Nat} {Q : SV → Hp → Prop} (hargs : SV.oks (fun n => decide (n < k)) args = true) (hF : F.ok (fun n => decide (n < k)) = true) (hN : args.length ≤ 8)
    (h : SW Try.prog 8 k s ⟨argE 0 args, F, k⟩ fun e st' => match e with | .normal => Fin k nk rv Q st' | .ret => Fin k nk rv Q st' | _ => False) : SB Try.prog 111 args F k nk Q :=
  SB.of_body Try.func111 b c r ca hargs hF hN h
end vector_Merge_1
namespace vector_each_1
abbrev f : Nat := 112
def s : SCo := (.seq
(.reg [⟨(some 3), .box 25 (.t 0), none⟩,
⟨(some 4), .box 25 (.t 1), none⟩,
⟨(some 5), .alloc 25 [(.d (.int .u32 0)), (.d (.int .u32 0)), (.d (.int .u32 0)), (.d (.int .u32 0)), (.d (.int .u32 0)), (.d (.int .u32 0)), (.d (.int .u32 0)), (.d (.int .u32 0))], none⟩] (fullB 3) false)
(.seq
(.seq
(.reg [⟨(some 7), .mv (.k (.d (.int .i64 0))), none⟩] (fullB 1) false)
(.block 0
 (.loop
 (.seq
 (.reg [⟨(some 8), .bin .lss (.t 7) (.k (.d (.int .i64 8))), none⟩] (fullB 1) false)
 (.seq
 (.cond (.t 8)
  .skip
  (.exit 0))
 (.seq
  (.block 1
  (.seq
  (.reg [⟨(some 9), .mv (.t 7), none⟩,
⟨(some 6), .mv (.t 9), none⟩] (fullB 2) false)
  (.reg [⟨(some 10), .mv (.t 6), none⟩,
⟨(some 11), .load none (.t 2), none⟩,
⟨(some 12), .mv (.t 6), none⟩,
⟨(some 13), .idxA 8 1 (.t 3) (.t 12), none⟩,
⟨(some 14), .load none (.t 13), none⟩,
⟨(some 15), .mv (.t 6), none⟩,
⟨(some 16), .idxA 8 1 (.t 4) (.t 15), none⟩,
⟨(some 17), .load none (.t 16), none⟩,
⟨(some 18), .call (.t 11) [(.t 14), (.t 17)], none⟩,
⟨(some 19), .idxA 8 1 (.t 5) (.t 10), none⟩,
⟨none, .store 1 (.t 19) (.t 18), none⟩] [0,
0,
0,
4,
12,
0,
32,
96,
254,
511,
1023] true)))
  (.reg [⟨(some 20), .bin .add (.t 7) (.k (.d (.int .i64 1))), none⟩,
⟨(some 7), .mv (.t 20), none⟩] (fullB 2) false)))))))
(.seq
(.reg [⟨(some 21), .load (some 8) (.t 5), none⟩,
⟨none, .store 8 (.t 5) (.t 21), none⟩] (fullB 2) false)
.ret)))
def rv : List RV := [.cell 5 (some 8)]
theorem c : cK Try.prog Try.f112.ntmps (Try.f112.body.getD .ret) = some s := by kernel_rfl
theorem b : Try.f112.body = some (Try.f112.body.getD .ret) := by kernel_rfl
theorem r : cRV Try.prog Try.f112.results.toList = some rv := by kernel_rfl
theorem ca : Callable Try.prog 112 = true := by kernel_rfl
theorem enter {args : List SV} {F : Hp} {k nk : Nat} {Q : SV → Hp → Prop} (hargs : SV.oks (fun n => decide (n < k)) args = true) (hF : F.ok (fun n => decide (n < k)) = true) (hN : args.length ≤ 22)
    (h : SW Try.prog 22 k s ⟨argE 0 args, F, k⟩ fun e st' => match e with | .normal => Fin k nk rv Q st' | .ret => Fin k nk rv Q st' | _ => False) : SB Try.prog 112 args F k nk Q :=
  SB.of_body Try.func112 b c r ca hargs hF hN h
end vector_each_1
namespace vector_Covers
abbrev f : Nat := 113
def s : SCo := (.seq
(.reg [⟨(some 2), .box 25 (.t 0), none⟩,
⟨(some 3), .box 37 (.t 1), none⟩,
⟨(some 4), .mv (.k (.d (.bool false))), none⟩] (fullB 3) false)
(.seq
(.reg [⟨(some 5), .load (some 2) (.t 3), none⟩,
⟨(some 6), .call (.k (.fn (.func 115) [] [])) [(.t 5)], none⟩,
⟨(some 7), .mv (.t 6), none⟩,
⟨(some 8), .fld 0 (.t 3), some (7, true)⟩,
⟨(some 9), .load none (.t 8), some (7, true)⟩,
⟨(some 10), .idxA 8 1 (.t 2) (.t 9), some (7, true)⟩,
⟨(some 11), .load none (.t 10), some (7, true)⟩,
⟨(some 12), .fld 1 (.t 3), some (7, true)⟩,
⟨(some 13), .load none (.t 12), some (7, true)⟩,
⟨(some 14), .bin .geq (.t 11) (.t 13), some (7, true)⟩,
⟨(some 15), .pick (.t 7) (.t 14) (.k (.d (.bool false))), none⟩,
⟨(some 4), .mv (.t 15), none⟩] [0,
1,
3,
7,
15,
31,
63,
7,
135,
511,
1023,
2047] true)
.ret))
def rv : List RV := [.tmp 4]
theorem c : cK Try.prog Try.f113.ntmps (Try.f113.body.getD .ret) = some s := by kernel_rfl
theorem b : Try.f113.body = some (Try.f113.body.getD .ret) := by kernel_rfl
theorem r : cRV Try.prog Try.f113.results.toList = some rv := by kernel_rfl
theorem ca : Callable Try.prog 113 = true := by kernel_rfl
theorem enter {args : List SV} {F : Hp} {k nk : Nat} {Q : SV → Hp → Prop} (hargs : SV.oks (fun n => decide (n < k)) args = true) (hF : F.ok (fun n => decide (n < k)) = true) (hN : args.length ≤ 16)
    (h : SW Try.prog 16 k s ⟨argE 0 args, F, k⟩ fun e st' => match e with | .normal => Fin k nk rv Q st' | .ret => Fin k nk rv Q st' | _ => False) : SB Try.prog 113 args F k nk Q :=
  SB.of_body Try.func113 b c r ca hargs hF hN h
end vector_Covers
namespace dot_May
abbrev f : Nat := 115
def s : SCo := (.seq
(.reg [⟨(some 1), .box 37 (.t 0), none⟩,
⟨(some 2), .mv (.k (.d (.bool false))), none⟩] (fullB 2) false)
(.seq
(.reg [⟨(some 3), .fld 0 (.t 1), none⟩,
⟨(some 4), .load none (.t 3), none⟩,
⟨(some 5), .bin .lss (.t 4) (.k (.d (.int .u8 8))), none⟩,
⟨(some 6), .mv (.t 5), none⟩,
⟨(some 7), .fld 1 (.t 1), some (6, true)⟩,
⟨(some 8), .load none (.t 7), some (6, true)⟩,
⟨(some 9), .bin .gtr (.t 8) (.k (.d (.int .u32 0))), some (6, true)⟩,
⟨(some 10), .pick (.t 6) (.t 9) (.k (.d (.bool false))), none⟩,
⟨(some 2), .mv (.t 10), none⟩] (fullB 9) false)
.ret))
def rv : List RV := [.tmp 2]
theorem c : cK Try.prog Try.f115.ntmps (Try.f115.body.getD .ret) = some s := by kernel_rfl
theorem b : Try.f115.body = some (Try.f115.body.getD .ret) := by kernel_rfl
theorem r : cRV Try.prog Try.f115.results.toList = some rv := by kernel_rfl
theorem ca : Callable Try.prog 115 = true := by kernel_rfl
theorem enter {args : List SV} {F : Hp} {k nk : Nat} {Q : SV → Hp → Prop} (hargs : SV.oks (fun n => decide (n < k)) args = true) (hF : F.ok (fun n => decide (n < k)) = true) (hN : args.length ≤ 11)
    (h : SW Try.prog 11 k s ⟨argE 0 args, F, k⟩ fun e st' => match e with | .normal => Fin k nk rv Q st' | .ret => Fin k nk rv Q st' | _ => False) : SB Try.prog 115 args F k nk Q :=
  SB.of_body Try.func115 b c r ca hargs hF hN h
end dot_May
end Go.Proofs.Ytacdkgkpoelhdaa
