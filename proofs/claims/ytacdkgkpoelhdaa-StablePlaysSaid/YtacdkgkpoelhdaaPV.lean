/-
  The code of the functions in the small form, by program (gen.py); each is checked against the translation by the kernel.
-/
import Derived.Test.YtacdkgkpoelhdaaChecked
import Derived.Test.YtacdkgkpoelhdaaP4
set_option linter.unusedVariables false
set_option linter.unusedSimpArgs false
set_option linter.unusedSectionVars false
namespace Go.Proofs.Ytacdkgkpoelhdaa
open Go.Sl Go.Proofs
theorem mixed : Try.prog.follows .mixedOrders = true := by kernel_rfl
abbrev T_int : Nat := 3
abbrev T_bool : Nat := 4
abbrev T_uint8 : Nat := 5
abbrev T_uint32 : Nat := 23
abbrev T_api_Vector : Nat := 25
abbrev T_L_tranterlaw12_Act : Nat := 59
abbrev T_tranterlaw12_Act : Nat := 61
abbrev T_func_uint32_uint32_uint32 : Nat := 139
namespace law12_StableSafe
def s : SCo := (.seq
(.reg [⟨(some 4), .box 25 (.t 1), none⟩,
⟨(some 6), .mv (.k (.d (.bool false))), none⟩] (fullB 2) false)
(.seq
(.reg [⟨(some 15), .call (.k (.fn (.func 9) [] [])) [(.k (.d (.int .i64 8))), (.k (.d (.int .u8 0)))], none⟩,
⟨(some 14), .mv (.t 15), none⟩,
⟨(some 16), .ext 0 (.t 14), none⟩,
⟨(some 17), .ext 1 (.t 14), none⟩,
⟨(some 7), .mv (.t 16), none⟩,
⟨(some 8), .mv (.t 17), none⟩] (fullB 6) false)
(.seq
(.seq
 (.reg (⟨(some 18), .mv (.t 8), none⟩ ::
⟨(some 19), .bin .neq (.t 18) (.k (.d (.int .i64 0))), none⟩ ::
⟨(some 20), .mv (.t 19), none⟩ ::
⟨(some 21), .mv (.t 7), some (20, false)⟩ ::
⟨(some 22), .eqnil false 0 (.t 21), some (20, false)⟩ ::
⟨(some 23), .pick (.t 20) (.k (.d (.bool true))) (.t 22), none⟩ ::
⟨(some 24), .mv (.t 23), none⟩ ::
⟨(some 25), .mv (.t 0), some (24, false)⟩ ::
⟨(some 26), .call (.k (.fn (.func 10) [] [])) [(.t 25), (.k (.d (.int .i64 8)))], some (24, false)⟩ ::
⟨(some 27), .bin .neq (.t 26) (.k (.d (.int .i64 0))), some (24, false)⟩ ::
⟨(some 28), .pick (.t 24) (.k (.d (.bool true))) (.t 27), none⟩ ::
⟨(some 29), .mv (.t 28), none⟩ ::
⟨(some 30), .mv (.t 0), some (29, false)⟩ ::
⟨(some 31), .call (.k (.fn (.func 11) [] [])) [(.t 30)], some (29, false)⟩ ::
⟨(some 32), .pick (.t 29) (.k (.d (.bool true))) (.t 31), none⟩ ::
⟨(some 33), .mv (.t 32), none⟩ ::
⟨(some 34), .mv (.t 7), some (33, false)⟩ ::
⟨(some 35), .load (some 8) (.t 4), some (33, false)⟩ ::
⟨(some 36), .call (.k (.fn (.func 12) [] [])) [(.t 34), (.t 35)], some (33, false)⟩ ::
⟨(some 37), .bin .neq (.t 36) (.k (.d (.int .i64 0))), some (33, false)⟩ ::
⟨(some 38), .pick (.t 33) (.k (.d (.bool true))) (.t 37), none⟩ :: []) (fullB 21) false)
 (.cond (.t 38)
 (.seq
 (.reg [⟨(some 39), .mv (.t 7), none⟩,
⟨(some 40), .eqnil true 0 (.t 39), none⟩,
⟨(some 41), .mv (.t 40), none⟩,
⟨(some 42), .call (.k (.fn (.func 13) [] [])) [], some (41, true)⟩,
⟨(some 43), .pick (.t 41) (.t 42) (.k (.d (.bool false))), none⟩,
⟨(some 6), .mv (.t 43), none⟩] (fullB 6) false)
 .ret)
 .skip))
(.seq
 (.seq
 (.reg [⟨(some 44), .mv (.t 0), none⟩,
⟨(some 45), .call (.k (.fn (.func 14) [] [])) [(.t 44)], none⟩,
⟨(some 46), .index 8 1 false (.t 45) (.k (.d (.int .i64 0))), none⟩,
⟨(some 47), .idxA 8 1 (.t 4) (.k (.d (.int .i64 0))), none⟩,
⟨(some 48), .load none (.t 47), none⟩,
⟨(some 49), .bin .neq (.t 46) (.t 48), none⟩] [0,
1,
3,
0,
8,
31] true)
 (.cond (.t 49)
 (.seq
 (.reg [⟨(some 50), .call (.k (.fn (.func 13) [] [])) [], none⟩,
⟨(some 6), .mv (.t 50), none⟩] (fullB 2) false)
 .ret)
 .skip))
 (.seq
 (.seq
 (.reg [⟨(some 9), .mv (.k (.d (.int .i64 0))), none⟩] (fullB 1) false)
 (.block 0
 (.loop
  (.seq
  (.seq
  (.reg [⟨(some 51), .mv (.t 9), none⟩,
⟨(some 52), .mv (.t 2), none⟩,
⟨(some 53), .len (.t 52), none⟩,
⟨(some 54), .bin .lss (.t 51) (.t 53), none⟩,
⟨(some 55), .mv (.t 54), none⟩,
⟨(some 56), .mv (.t 9), some (55, true)⟩,
⟨(some 57), .bin .lss (.t 56) (.k (.d (.int .i64 100))), some (55, true)⟩,
⟨(some 58), .pick (.t 55) (.t 57) (.k (.d (.bool false))), none⟩,
⟨(some 59), .mv (.t 58), none⟩,
⟨(some 60), .mv (.t 0), some (59, true)⟩,
⟨(some 61), .len (.t 60), some (59, true)⟩,
⟨(some 62), .bin .gtr (.t 61) (.k (.d (.int .i64 0))), some (59, true)⟩,
⟨(some 63), .pick (.t 59) (.t 62) (.k (.d (.bool false))), none⟩] (fullB 13) false)
  (.cond (.t 63)
  .skip
  (.exit 0)))
  (.seq
  (.block 1
  (.seq
   (.reg [⟨(some 66), .mv (.t 0), none⟩,
⟨(some 67), .mv (.t 2), none⟩,
⟨(some 68), .mv (.t 9), none⟩,
⟨(some 69), .idxS 1 (.t 67) (.t 68), none⟩,
⟨(some 70), .load none (.t 69), none⟩,
⟨(some 71), .conv .i64 (.t 70), none⟩,
⟨(some 72), .mv (.t 0), none⟩,
⟨(some 73), .len (.t 72), none⟩,
⟨(some 74), .bin .rem (.t 71) (.t 73), none⟩,
⟨(some 75), .idxS 29 (.t 66) (.t 74), none⟩,
⟨(some 76), .load (some 29) (.t 75), none⟩,
⟨(some 10), .alloc 41 [(.d (.int .u8 0)), (.d (.int .u32 0)), (.d (.int .u32 0)), (.d (.int .u32 0)), (.d (.int .u32 0)), (.d (.int .u32 0)), (.d (.int .u32 0)), (.d (.int .u32 0)), (.d (.int .u32 0)), (.d (.int .u32 0)), (.d (.int .u64 0)), (.d (.int .u32 0)), (.d (.int .u8 0)), (.d (.int .u32 0)), (.d (.int .u8 0)), (.d (.int .u8 0)), (.d (.int .u32 0)), (.d (.int .u32 0)), (.d (.int .u8 0)), (.d (.int .u8 0)), (.d (.int .u64 0)), (.d (.int .u8 0)), (.d (.int .u32 0)), (.d (.int .u8 0)), (.d (.int .u32 0)), (.d (.int .u32 0)), (.d (.int .u32 0)), (.d (.int .u32 0)), (.d .nils)], none⟩,
⟨none, .store 29 (.t 10) (.t 76), none⟩] (fullB 13) false)
   (.seq
   (.reg [⟨(some 77), .fld 2 (.t 10), none⟩,
⟨(some 78), .load (some 8) (.t 77), none⟩,
⟨(some 11), .alloc 25 [(.d (.int .u32 0)), (.d (.int .u32 0)), (.d (.int .u32 0)), (.d (.int .u32 0)), (.d (.int .u32 0)), (.d (.int .u32 0)), (.d (.int .u32 0)), (.d (.int .u32 0))], none⟩,
⟨none, .store 8 (.t 11) (.t 78), none⟩] (fullB 4) false)
   (.seq
   (.reg [⟨(some 79), .fld 0 (.t 10), none⟩,
⟨(some 80), .fld 0 (.t 79), none⟩,
⟨(some 81), .load none (.t 80), none⟩,
⟨(some 82), .fld 0 (.t 10), none⟩,
⟨(some 83), .fld 1 (.t 82), none⟩,
⟨(some 84), .load none (.t 83), none⟩,
⟨(some 85), .idxA 8 1 (.t 11) (.t 81), none⟩,
⟨none, .store 1 (.t 85) (.t 84), none⟩] (fullB 8) false)
   (.reg [⟨(some 86), .mv (.t 7), none⟩,
⟨(some 87), .fld 0 (.t 10), none⟩,
⟨(some 88), .fld 0 (.t 87), none⟩,
⟨(some 89), .load none (.t 88), none⟩,
⟨(some 90), .load (some 8) (.t 11), none⟩,
⟨(some 91), .call (.k (.fn (.func 15) [] [])) [(.t 86), (.t 89), (.t 90)], none⟩] (fullB 6) false)))))
  (.reg [⟨(some 64), .mv (.t 9), none⟩,
⟨(some 65), .bin .add (.t 64) (.k (.d (.int .i64 1))), none⟩,
⟨(some 9), .mv (.t 65), none⟩] (fullB 3) false))))))
 (.seq
 (.reg [⟨(some 92), .mv (.t 7), none⟩,
⟨(some 93), .call (.k (.fn (.func 16) [] [])) [(.t 92)], none⟩,
⟨(some 12), .alloc 25 [(.d (.int .u32 0)), (.d (.int .u32 0)), (.d (.int .u32 0)), (.d (.int .u32 0)), (.d (.int .u32 0)), (.d (.int .u32 0)), (.d (.int .u32 0)), (.d (.int .u32 0))], none⟩,
⟨none, .store 8 (.t 12) (.t 93), none⟩] (fullB 4) false)
 (.seq
 (.seq
  (.reg [⟨(some 13), .mv (.k (.d (.int .i64 0))), none⟩] (fullB 1) false)
  (.block 2
  (.loop
  (.seq
  (.seq
   (.reg [⟨(some 94), .mv (.t 13), none⟩,
⟨(some 95), .mv (.t 0), none⟩,
⟨(some 96), .len (.t 95), none⟩,
⟨(some 97), .bin .lss (.t 94) (.t 96), none⟩] (fullB 4) false)
   (.cond (.t 97)
   .skip
   (.exit 2)))
  (.seq
   (.block 3
   (.seq
   (.reg (⟨(some 100), .load (some 8) (.t 4), none⟩ ::
⟨(some 101), .mv (.t 0), none⟩ ::
⟨(some 102), .mv (.t 13), none⟩ ::
⟨(some 103), .idxS 29 (.t 101) (.t 102), none⟩ ::
⟨(some 104), .fld 0 (.t 103), none⟩ ::
⟨(some 105), .load (some 2) (.t 104), none⟩ ::
⟨(some 106), .call (.k (.fn (.func 17) [] [])) [(.t 100), (.t 105)], none⟩ ::
⟨(some 107), .not (.t 106), none⟩ ::
⟨(some 108), .mv (.t 107), none⟩ ::
⟨(some 109), .mv (.t 0), some (108, true)⟩ ::
⟨(some 110), .mv (.t 13), some (108, true)⟩ ::
⟨(some 111), .idxS 29 (.t 109) (.t 110), some (108, true)⟩ ::
⟨(some 112), .fld 2 (.t 111), some (108, true)⟩ ::
⟨(some 113), .load (some 8) (.t 112), some (108, true)⟩ ::
⟨(some 114), .load (some 8) (.t 12), some (108, true)⟩ ::
⟨(some 115), .call (.k (.fn (.func 18) [] [])) [(.t 113), (.t 114)], some (108, true)⟩ ::
⟨(some 116), .not (.t 115), some (108, true)⟩ ::
⟨(some 117), .pick (.t 108) (.t 116) (.k (.d (.bool false))), none⟩ :: []) (0 ::
0 ::
0 ::
6 ::
14 ::
30 ::
63 ::
127 ::
255 ::
511 ::
511 ::
2047 ::
4095 ::
8191 ::
511 ::
32767 ::
65535 ::
131071 :: []) true)
   (.cond (.t 117)
   (.seq
    (.reg [⟨(some 6), .mv (.k (.d (.bool false))), none⟩] (fullB 1) false)
    .ret)
   .skip)))
   (.reg [⟨(some 98), .mv (.t 13), none⟩,
⟨(some 99), .bin .add (.t 98) (.k (.d (.int .i64 1))), none⟩,
⟨(some 13), .mv (.t 99), none⟩] (fullB 3) false))))))
 (.seq
  (.reg [⟨(some 118), .call (.k (.fn (.func 13) [] [])) [], none⟩,
⟨(some 6), .mv (.t 118), none⟩] (fullB 2) false)
  .ret))))))))
def rv : List RV := [.tmp 6]
theorem c : cK Try.prog Try.f3.ntmps (Try.f3.body.getD .ret) = some s := by kernel_rfl
theorem b : Try.f3.body = some (Try.f3.body.getD .ret) := by kernel_rfl
theorem r : cRV Try.prog Try.f3.results.toList = some rv := by kernel_rfl
theorem ca : Callable Try.prog 3 = true := by kernel_rfl
theorem enter {args : List SV} {F : Hp} {k nk : Nat} {Q : SV → Hp → Prop} (hargs : SV.oks (fun n => decide (n < k)) args = true) (hF : F.ok (fun n => decide (n < k)) = true) (hN : args.length ≤ 119)
    (h : SW Try.prog 119 k s ⟨argE 0 args, F, k⟩ fun e st' => match e with | .normal => Fin k nk rv Q st' | .ret => Fin k nk rv Q st' | _ => False) : SB Try.prog 3 args F k nk Q :=
  SB.of_body Try.func3 b c r ca hargs hF hN h
end law12_StableSafe
namespace law16_TreeBegins
end law16_TreeBegins
namespace law12_StableGrows
end law12_StableGrows
namespace law12_StablePlays
abbrev f : Nat := 6
def s : SCo := (.seq
(.reg [⟨(some 6), .mv (.k (.d (.bool false))), none⟩] (fullB 1) false)
(.seq
(.reg [⟨(some 18), .mv (.t 0), none⟩,
⟨(some 19), .mv (.t 1), none⟩,
⟨(some 20), .call (.k (.fn (.func 9) [] [])) [(.t 18), (.t 19)], none⟩,
⟨(some 17), .mv (.t 20), none⟩,
⟨(some 21), .ext 0 (.t 17), none⟩,
⟨(some 22), .ext 1 (.t 17), none⟩,
⟨(some 7), .mv (.t 21), none⟩,
⟨(some 8), .mv (.t 22), none⟩] (fullB 8) false)
(.seq
(.reg [⟨(some 24), .mv (.t 0), none⟩,
⟨(some 25), .mv (.t 1), none⟩,
⟨(some 26), .call (.k (.fn (.func 28) [] [])) [(.t 24), (.t 25)], none⟩,
⟨(some 23), .mv (.t 26), none⟩,
⟨(some 27), .ext 0 (.t 23), none⟩,
⟨(some 28), .ext 1 (.t 23), none⟩,
⟨(some 9), .alloc 69 [(.d (.int .i64 0)), (.d (.int .u8 0)), (.d (.int .u32 0)), (.d (.int .u32 0)), (.d (.int .u32 0)), (.d (.int .u32 0)), (.d (.int .u32 0)), (.d (.int .u32 0)), (.d (.int .u32 0)), (.d (.int .u32 0)), (.d .nils)], none⟩,
⟨none, .store 11 (.t 9) (.t 27), none⟩,
⟨(some 10), .mv (.t 28), none⟩] (fullB 9) false)
(.seq
 (.seq
 (.reg [⟨(some 29), .mv (.t 8), none⟩,
⟨(some 30), .mv (.t 10), none⟩,
⟨(some 31), .bin .neq (.t 29) (.t 30), none⟩,
⟨(some 32), .mv (.t 31), none⟩,
⟨(some 33), .mv (.t 7), some (32, false)⟩,
⟨(some 34), .eqnil false 0 (.t 33), some (32, false)⟩,
⟨(some 35), .mv (.t 10), some (32, false)⟩,
⟨(some 36), .bin .neq (.t 35) (.k (.d (.int .i64 0))), some (32, false)⟩,
⟨(some 37), .eqb true (.t 34) (.t 36), some (32, false)⟩,
⟨(some 38), .pick (.t 32) (.k (.d (.bool true))) (.t 37), none⟩] (fullB 10) false)
 (.cond (.t 38)
 (.seq
 (.reg [⟨(some 6), .mv (.k (.d (.bool false))), none⟩] (fullB 1) false)
 .ret)
 .skip))
 (.seq
 (.seq
 (.reg [⟨(some 39), .mv (.t 10), none⟩,
⟨(some 40), .bin .neq (.t 39) (.k (.d (.int .i64 0))), none⟩] (fullB 2) false)
 (.cond (.t 40)
 (.seq
  (.reg [⟨(some 41), .call (.k (.fn (.func 13) [] [])) [], none⟩,
⟨(some 6), .mv (.t 41), none⟩] (fullB 2) false)
  .ret)
 .skip))
 (.seq
 (.reg [⟨(some 42), .bld [(.d (.int .u32 0)), (.d (.int .u32 0)), (.d (.int .u32 0)), (.d (.int .u32 0)), (.d (.int .u32 0)), (.d (.int .u32 0)), (.d (.int .u32 0)), (.d (.int .u32 0))] [], none⟩,
⟨(some 11), .alloc 25 [(.d (.int .u32 0)), (.d (.int .u32 0)), (.d (.int .u32 0)), (.d (.int .u32 0)), (.d (.int .u32 0)), (.d (.int .u32 0)), (.d (.int .u32 0)), (.d (.int .u32 0))], none⟩,
⟨none, .store 8 (.t 11) (.t 42), none⟩] (fullB 3) false)
 (.seq
 (.seq
  (.reg [⟨(some 12), .mv (.k (.d (.int .i64 0))), none⟩] (fullB 1) false)
  (.block 0
  (.loop
  (.seq
  (.seq
   (.reg [⟨(some 43), .mv (.t 12), none⟩,
⟨(some 44), .mv (.t 2), none⟩,
⟨(some 45), .len (.t 44), none⟩,
⟨(some 46), .bin .lss (.t 43) (.t 45), none⟩,
⟨(some 47), .mv (.t 46), none⟩,
⟨(some 48), .mv (.t 12), some (47, true)⟩,
⟨(some 49), .bin .lss (.t 48) (.k (.d (.int .i64 60))), some (47, true)⟩,
⟨(some 50), .pick (.t 47) (.t 49) (.k (.d (.bool false))), none⟩] (fullB 8) false)
   (.cond (.t 50)
   .skip
   (.exit 0)))
  (.seq
   (.block 1
   (.seq
   (.reg [⟨(some 53), .mv (.t 7), none⟩,
⟨(some 54), .call (.k (.fn (.func 25) [] [])) [(.t 53)], none⟩,
⟨(some 13), .mv (.t 54), none⟩] (fullB 3) false)
   (.seq
   (.reg [⟨(some 56), .mv (.t 13), none⟩,
⟨(some 57), .load (some 11) (.t 9), none⟩,
⟨(some 58), .mv (.t 2), none⟩,
⟨(some 59), .mv (.t 12), none⟩,
⟨(some 60), .idxS 10 (.t 58) (.t 59), none⟩,
⟨(some 61), .load (some 10) (.t 60), none⟩,
⟨(some 62), .call (.k (.fn (.func 29) [] [])) [(.t 56), (.t 57), (.t 61)], none⟩,
⟨(some 55), .mv (.t 62), none⟩,
⟨(some 63), .ext 0 (.t 55), none⟩,
⟨(some 64), .ext 1 (.t 55), none⟩,
⟨(some 14), .alloc 69 [(.d (.int .i64 0)), (.d (.int .u8 0)), (.d (.int .u32 0)), (.d (.int .u32 0)), (.d (.int .u32 0)), (.d (.int .u32 0)), (.d (.int .u32 0)), (.d (.int .u32 0)), (.d (.int .u32 0)), (.d (.int .u32 0)), (.d .nils)], none⟩,
⟨none, .store 11 (.t 14) (.t 63), none⟩,
⟨(some 15), .mv (.t 64), none⟩] [0,
0,
0,
0,
12,
28,
63,
127,
255,
255,
0,
1535,
4095] true)
   (.seq
    (.seq
    (.reg [⟨(some 65), .mv (.t 15), none⟩,
⟨(some 66), .not (.t 65), none⟩,
⟨(some 67), .mv (.t 66), none⟩,
⟨(some 68), .mv (.t 13), some (67, false)⟩,
⟨(some 69), .load (some 11) (.t 14), some (67, false)⟩,
⟨(some 70), .call (.k (.fn (.func 30) [] [])) [(.t 68), (.t 69)], some (67, false)⟩,
⟨(some 71), .not (.t 70), some (67, false)⟩,
⟨(some 72), .pick (.t 67) (.k (.d (.bool true))) (.t 71), none⟩,
⟨(some 73), .mv (.t 72), none⟩,
⟨(some 74), .mv (.t 7), some (73, false)⟩,
⟨(some 75), .load (some 11) (.t 9), some (73, false)⟩,
⟨(some 76), .call (.k (.fn (.func 30) [] [])) [(.t 74), (.t 75)], some (73, false)⟩,
⟨(some 77), .not (.t 76), some (73, false)⟩,
⟨(some 78), .pick (.t 73) (.k (.d (.bool true))) (.t 77), none⟩] (fullB 14) false)
    (.cond (.t 78)
    (.seq
    (.reg [⟨(some 6), .mv (.k (.d (.bool false))), none⟩] (fullB 1) false)
    .ret)
    .skip))
    (.seq
    (.reg [⟨(some 79), .mv (.t 13), none⟩,
⟨(some 80), .call (.k (.fn (.func 16) [] [])) [(.t 79)], none⟩,
⟨(some 16), .alloc 25 [(.d (.int .u32 0)), (.d (.int .u32 0)), (.d (.int .u32 0)), (.d (.int .u32 0)), (.d (.int .u32 0)), (.d (.int .u32 0)), (.d (.int .u32 0)), (.d (.int .u32 0))], none⟩,
⟨none, .store 8 (.t 16) (.t 80), none⟩] (fullB 4) false)
    (.seq
    (.seq
    (.reg [⟨(some 81), .load (some 8) (.t 16), none⟩,
⟨(some 82), .load (some 8) (.t 11), none⟩,
⟨(some 83), .call (.k (.fn (.func 18) [] [])) [(.t 81), (.t 82)], none⟩,
⟨(some 84), .not (.t 83), none⟩,
⟨(some 85), .mv (.t 84), none⟩,
⟨(some 86), .mv (.t 13), some (85, false)⟩,
⟨(some 87), .call (.k (.fn (.func 31) [] [])) [(.t 86)], some (85, false)⟩,
⟨(some 88), .load (some 8) (.t 16), some (85, false)⟩,
⟨(some 89), .call (.k (.fn (.func 18) [] [])) [(.t 87), (.t 88)], some (85, false)⟩,
⟨(some 90), .not (.t 89), some (85, false)⟩,
⟨(some 91), .pick (.t 85) (.k (.d (.bool true))) (.t 90), none⟩] [0,
0,
3,
7,
15,
31,
63,
31,
255,
511,
1023] true)
    (.cond (.t 91)
     (.seq
     (.reg [⟨(some 6), .mv (.k (.d (.bool false))), none⟩] (fullB 1) false)
     .ret)
     .skip))
    (.seq
    (.reg [⟨(some 92), .load (some 8) (.t 16), none⟩,
⟨none, .store 8 (.t 11) (.t 92), none⟩] (fullB 2) false)
    (.seq
     (.reg [⟨(some 93), .mv (.t 13), none⟩,
⟨(some 7), .mv (.t 93), none⟩] (fullB 2) false)
     (.reg [⟨(some 94), .load (some 11) (.t 14), none⟩,
⟨none, .store 11 (.t 9) (.t 94), none⟩] (fullB 2) false)))))))))
   (.reg [⟨(some 51), .mv (.t 12), none⟩,
⟨(some 52), .bin .add (.t 51) (.k (.d (.int .i64 1))), none⟩,
⟨(some 12), .mv (.t 52), none⟩] (fullB 3) false))))))
 (.seq
  (.reg [⟨(some 95), .call (.k (.fn (.func 13) [] [])) [], none⟩,
⟨(some 6), .mv (.t 95), none⟩] (fullB 2) false)
  .ret))))))))
def rv : List RV := [.tmp 6]
theorem c : cK Try.prog Try.f6.ntmps (Try.f6.body.getD .ret) = some s := by kernel_rfl
theorem b : Try.f6.body = some (Try.f6.body.getD .ret) := by kernel_rfl
theorem r : cRV Try.prog Try.f6.results.toList = some rv := by kernel_rfl
theorem ca : Callable Try.prog 6 = true := by kernel_rfl
theorem enter {args : List SV} {F : Hp} {k nk : Nat} {Q : SV → Hp → Prop} (hargs : SV.oks (fun n => decide (n < k)) args = true) (hF : F.ok (fun n => decide (n < k)) = true) (hN : args.length ≤ 96)
    (h : SW Try.prog 96 k s ⟨argE 0 args, F, k⟩ fun e st' => match e with | .normal => Fin k nk rv Q st' | .ret => Fin k nk rv Q st' | _ => False) : SB Try.prog 6 args F k nk Q :=
  SB.of_body Try.func6 b c r ca hargs hF hN h
end law12_StablePlays
namespace stable_New
abbrev f : Nat := 9
def s : SCo := (.seq
(.reg [⟨(some 4), .mv (.k (.d .nilp)), none⟩,
⟨(some 5), .mv (.k (.d (.int .i64 0))), none⟩] (fullB 2) false)
(.seq
(.seq
(.reg [⟨(some 6), .mv (.t 0), none⟩,
⟨(some 7), .bin .lss (.t 6) (.k (.d (.int .i64 1))), none⟩,
⟨(some 8), .mv (.t 7), none⟩,
⟨(some 9), .mv (.t 0), some (8, false)⟩,
⟨(some 10), .bin .gtr (.t 9) (.k (.d (.int .i64 8))), some (8, false)⟩,
⟨(some 11), .pick (.t 8) (.k (.d (.bool true))) (.t 10), none⟩,
⟨(some 12), .mv (.t 11), none⟩,
⟨(some 13), .mv (.t 1), some (12, false)⟩,
⟨(some 14), .conv .i64 (.t 13), some (12, false)⟩,
⟨(some 15), .mv (.t 0), some (12, false)⟩,
⟨(some 16), .bin .geq (.t 14) (.t 15), some (12, false)⟩,
⟨(some 17), .pick (.t 12) (.k (.d (.bool true))) (.t 16), none⟩] (fullB 12) false)
(.cond (.t 17)
 (.seq
 (.reg [⟨(some 4), .mv (.k (.d .nilp)), none⟩,
⟨(some 5), .mv (.k (.d (.int .i64 2))), none⟩] (fullB 2) false)
 .ret)
 .skip))
(.seq
(.reg [⟨(some 18), .mv (.t 0), none⟩,
⟨(some 19), .mv (.t 1), none⟩,
⟨(some 20), .bld [(.d (.int .i64 0)), (.d (.int .u8 0)), (.d (.int .u32 0)), (.d (.int .u32 0)), (.d (.int .u32 0)), (.d (.int .u32 0)), (.d (.int .u32 0)), (.d (.int .u32 0)), (.d (.int .u32 0)), (.d (.int .u32 0)), (.d (.int .u32 0)), (.d (.int .u32 0)), (.d (.int .u32 0)), (.d (.int .u32 0)), (.d (.int .u32 0)), (.d (.int .u32 0)), (.d (.int .u32 0)), (.d (.int .u32 0)), (.d (.int .u32 0)), (.d (.int .u32 0)), (.d (.int .u32 0)), (.d (.int .u32 0)), (.d (.int .u32 0)), (.d (.int .u32 0)), (.d (.int .u32 0)), (.d (.int .u32 0)), (.d (.int .u32 0)), (.d (.int .u32 0)), (.d (.int .u32 0)), (.d (.int .u32 0)), (.d (.int .u32 0)), (.d (.int .u32 0)), (.d (.int .u32 0)), (.d (.int .u32 0)), (.d (.int .u32 0)), (.d (.int .u32 0)), (.d (.int .u32 0)), (.d (.int .u32 0)), (.d (.int .u32 0)), (.d (.int .u32 0)), (.d (.int .u32 0)), (.d (.int .u32 0)), (.d (.int .u32 0)), (.d (.int .u32 0)), (.d (.int .u32 0)), (.d (.int .u32 0)), (.d (.int .u32 0)), (.d (.int .u32 0)), (.d (.int .u32 0)), (.d (.int .u32 0)), (.d (.int .u32 0)), (.d (.int .u32 0)), (.d (.int .u32 0)), (.d (.int .u32 0)), (.d (.int .u32 0)), (.d (.int .u32 0)), (.d (.int .u32 0)), (.d (.int .u32 0)), (.d (.int .u32 0)), (.d (.int .u32 0)), (.d (.int .u32 0)), (.d (.int .u32 0)), (.d (.int .u32 0)), (.d (.int .u32 0)), (.d (.int .u32 0)), (.d (.int .u32 0)), (.d (.int .u32 0)), (.d (.int .u32 0)), (.d (.int .u32 0)), (.d (.int .u32 0)), (.d (.int .u32 0)), (.d (.int .u32 0)), (.d (.int .u32 0)), (.d (.int .u32 0)), (.d .nilm), (.d .nilm), (.d .nilm), (.d .nilm), (.d .nilm), (.d .nilm), (.d .nilm), (.d .nilm)] [(0, 1, (.t 18)), (1, 1, (.t 19))], none⟩,
⟨(some 21), .box 86 (.t 20), none⟩,
⟨(some 4), .mv (.t 21), none⟩,
⟨(some 5), .mv (.k (.d (.int .i64 0))), none⟩] (fullB 6) false)
.ret)))
def rv : List RV := [.tmp 4, .tmp 5]
theorem c : cK Try.prog Try.f9.ntmps (Try.f9.body.getD .ret) = some s := by kernel_rfl
theorem b : Try.f9.body = some (Try.f9.body.getD .ret) := by kernel_rfl
theorem r : cRV Try.prog Try.f9.results.toList = some rv := by kernel_rfl
theorem ca : Callable Try.prog 9 = true := by kernel_rfl
theorem enter {args : List SV} {F : Hp} {k nk : Nat} {Q : SV → Hp → Prop} (hargs : SV.oks (fun n => decide (n < k)) args = true) (hF : F.ok (fun n => decide (n < k)) = true) (hN : args.length ≤ 22)
    (h : SW Try.prog 22 k s ⟨argE 0 args, F, k⟩ fun e st' => match e with | .normal => Fin k nk rv Q st' | .ret => Fin k nk rv Q st' | _ => False) : SB Try.prog 9 args F k nk Q :=
  SB.of_body Try.func9 b c r ca hargs hF hN h
end stable_New
namespace ref10_History
end ref10_History
namespace ref10_Great
end ref10_Great
namespace stable_Tracker_Has
abbrev f : Nat := 12
def s : SCo := (.seq
(.reg [⟨(some 3), .box 25 (.t 1), none⟩,
⟨(some 4), .mv (.k (.d (.int .i64 0))), none⟩] (fullB 2) false)
(.seq
(.block 0
(.seq
 (.reg [⟨(some 6), .mv (.t 0), none⟩,
⟨(some 7), .call (.k (.fn (.func 38) [] [])) [(.t 6)], none⟩,
⟨(some 5), .mv (.t 7), none⟩] (fullB 3) false)
 (.cond (.t 5)
 (.seq
 (.reg [⟨(some 4), .mv (.k (.d (.int .i64 1))), none⟩] (fullB 1) false)
 .ret)
 (.seq
 (.reg [⟨(some 9), .mv (.t 0), none⟩,
⟨(some 10), .load (some 8) (.t 3), none⟩,
⟨(some 11), .call (.k (.fn (.func 39) [] [])) [(.t 9), (.t 10)], none⟩,
⟨(some 12), .not (.t 11), none⟩,
⟨(some 8), .mv (.t 12), none⟩] (fullB 5) false)
 (.cond (.t 8)
 (.seq
  (.reg [⟨(some 4), .mv (.k (.d (.int .i64 2))), none⟩] (fullB 1) false)
  .ret)
 (.seq
  (.reg [⟨(some 14), .load (some 8) (.t 3), none⟩,
⟨(some 15), .mv (.t 0), none⟩,
⟨(some 16), .nilc (.t 15), none⟩,
⟨(some 17), .fld 2 (.t 16), none⟩,
⟨(some 18), .load (some 8) (.t 17), none⟩,
⟨(some 19), .call (.k (.fn (.func 40) [] [])) [(.t 14), (.t 18)], none⟩,
⟨(some 20), .not (.t 19), none⟩,
⟨(some 13), .mv (.t 20), none⟩] [0,
0,
2,
6,
14,
31,
63,
127] true)
  (.cond (.t 13)
  (.seq
  (.reg [⟨(some 4), .mv (.k (.d (.int .i64 9))), none⟩] (fullB 1) false)
  .ret)
  .skip)))))))
(.seq
(.reg [⟨(some 21), .mv (.t 0), none⟩,
⟨(some 22), .load (some 8) (.t 3), none⟩,
⟨(some 23), .nilc (.t 21), none⟩,
⟨(some 24), .fld 2 (.t 23), none⟩,
⟨none, .store 8 (.t 24) (.t 22), none⟩] (fullB 5) false)
(.seq
 (.reg [⟨(some 25), .mv (.t 0), none⟩,
⟨(some 26), .call (.k (.fn (.func 41) [] [])) [(.t 25)], none⟩] (fullB 2) false)
 (.seq
 (.reg [⟨(some 4), .mv (.k (.d (.int .i64 0))), none⟩] (fullB 1) false)
 .ret)))))
def rv : List RV := [.tmp 4]
theorem c : cK Try.prog Try.f12.ntmps (Try.f12.body.getD .ret) = some s := by kernel_rfl
theorem b : Try.f12.body = some (Try.f12.body.getD .ret) := by kernel_rfl
theorem r : cRV Try.prog Try.f12.results.toList = some rv := by kernel_rfl
theorem ca : Callable Try.prog 12 = true := by kernel_rfl
theorem enter {args : List SV} {F : Hp} {k nk : Nat} {Q : SV → Hp → Prop} (hargs : SV.oks (fun n => decide (n < k)) args = true) (hF : F.ok (fun n => decide (n < k)) = true) (hN : args.length ≤ 27)
    (h : SW Try.prog 27 k s ⟨argE 0 args, F, k⟩ fun e st' => match e with | .normal => Fin k nk rv Q st' | .ret => Fin k nk rv Q st' | _ => False) : SB Try.prog 12 args F k nk Q :=
  SB.of_body Try.func12 b c r ca hargs hF hN h
end stable_Tracker_Has
namespace law12_head
abbrev f : Nat := 13
def s : SCo := (.seq
(.reg [⟨(some 0), .mv (.k (.d (.bool false))), none⟩] (fullB 1) false)
(.seq
(.reg [⟨(some 13), .call (.k (.fn (.func 9) [] [])) [(.k (.d (.int .i64 2))), (.k (.d (.int .u8 0)))], none⟩,
⟨(some 12), .mv (.t 13), none⟩,
⟨(some 14), .ext 0 (.t 12), none⟩,
⟨(some 15), .ext 1 (.t 12), none⟩,
⟨(some 1), .mv (.t 14), none⟩,
⟨(some 2), .mv (.t 15), none⟩] (fullB 6) false)
(.seq
(.seq
 (.reg [⟨(some 16), .mv (.t 2), none⟩,
⟨(some 17), .bin .neq (.t 16) (.k (.d (.int .i64 0))), none⟩,
⟨(some 18), .mv (.t 17), none⟩,
⟨(some 19), .mv (.t 1), some (18, false)⟩,
⟨(some 20), .eqnil false 0 (.t 19), some (18, false)⟩,
⟨(some 21), .pick (.t 18) (.k (.d (.bool true))) (.t 20), none⟩] (fullB 6) false)
 (.cond (.t 21)
 (.seq
 (.reg [⟨(some 0), .mv (.k (.d (.bool false))), none⟩] (fullB 1) false)
 .ret)
 .skip))
(.seq
 (.reg [⟨(some 22), .mv (.t 1), none⟩,
⟨(some 23), .call (.k (.fn (.func 42) [] [])) [(.k (.d (.int .u32 2))), (.k (.d (.int .u32 0)))], none⟩,
⟨(some 24), .call (.k (.fn (.func 12) [] [])) [(.t 22), (.t 23)], none⟩,
⟨(some 25), .mv (.t 1), none⟩,
⟨(some 26), .call (.k (.fn (.func 42) [] [])) [(.k (.d (.int .u32 1))), (.k (.d (.int .u32 0)))], none⟩,
⟨(some 27), .call (.k (.fn (.func 15) [] [])) [(.t 25), (.k (.d (.int .u8 1))), (.t 26)], none⟩,
⟨(some 28), .mv (.t 1), none⟩,
⟨(some 29), .call (.k (.fn (.func 16) [] [])) [(.t 28)], none⟩,
⟨(some 5), .alloc 25 [(.d (.int .u32 0)), (.d (.int .u32 0)), (.d (.int .u32 0)), (.d (.int .u32 0)), (.d (.int .u32 0)), (.d (.int .u32 0)), (.d (.int .u32 0)), (.d (.int .u32 0))], none⟩,
⟨(some 3), .mv (.t 24), none⟩,
⟨(some 4), .mv (.t 27), none⟩,
⟨none, .store 8 (.t 5) (.t 29), none⟩] (fullB 12) false)
 (.seq
 (.reg [⟨(some 30), .mv (.t 1), none⟩,
⟨(some 31), .call (.k (.fn (.func 42) [] [])) [(.k (.d (.int .u32 2))), (.k (.d (.int .u32 1)))], none⟩,
⟨(some 32), .call (.k (.fn (.func 15) [] [])) [(.t 30), (.k (.d (.int .u8 1))), (.t 31)], none⟩,
⟨(some 33), .mv (.t 1), none⟩,
⟨(some 34), .call (.k (.fn (.func 16) [] [])) [(.t 33)], none⟩,
⟨(some 35), .mv (.t 1), none⟩,
⟨(some 36), .call (.k (.fn (.func 27) [] [])) [(.t 35)], none⟩,
⟨(some 7), .alloc 25 [(.d (.int .u32 0)), (.d (.int .u32 0)), (.d (.int .u32 0)), (.d (.int .u32 0)), (.d (.int .u32 0)), (.d (.int .u32 0)), (.d (.int .u32 0)), (.d (.int .u32 0))], none⟩,
⟨(some 6), .mv (.t 32), none⟩,
⟨none, .store 8 (.t 7) (.t 34), none⟩,
⟨(some 8), .mv (.t 36), none⟩] (fullB 11) false)
 (.seq
 (.reg [⟨(some 37), .mv (.t 1), none⟩,
⟨(some 38), .call (.k (.fn (.func 42) [] [])) [(.k (.d (.int .u32 2))), (.k (.d (.int .u32 1)))], none⟩,
⟨(some 39), .call (.k (.fn (.func 12) [] [])) [(.t 37), (.t 38)], none⟩,
⟨(some 40), .mv (.t 1), none⟩,
⟨(some 41), .call (.k (.fn (.func 16) [] [])) [(.t 40)], none⟩,
⟨(some 42), .mv (.t 1), none⟩,
⟨(some 43), .call (.k (.fn (.func 27) [] [])) [(.t 42)], none⟩,
⟨(some 10), .alloc 25 [(.d (.int .u32 0)), (.d (.int .u32 0)), (.d (.int .u32 0)), (.d (.int .u32 0)), (.d (.int .u32 0)), (.d (.int .u32 0)), (.d (.int .u32 0)), (.d (.int .u32 0))], none⟩,
⟨(some 9), .mv (.t 39), none⟩,
⟨none, .store 8 (.t 10) (.t 41), none⟩,
⟨(some 11), .mv (.t 43), none⟩] (fullB 11) false)
 (.seq
 (.reg (⟨(some 44), .mv (.t 3), none⟩ ::
⟨(some 45), .bin .eql (.t 44) (.k (.d (.int .i64 0))), none⟩ ::
⟨(some 46), .mv (.t 45), none⟩ ::
⟨(some 47), .mv (.t 4), some (46, true)⟩ ::
⟨(some 48), .bin .eql (.t 47) (.k (.d (.int .i64 0))), some (46, true)⟩ ::
⟨(some 49), .pick (.t 46) (.t 48) (.k (.d (.bool false))), none⟩ ::
⟨(some 50), .mv (.t 49), none⟩ ::
⟨(some 51), .load (some 8) (.t 5), some (50, true)⟩ ::
⟨(some 52), .call (.k (.fn (.func 42) [] [])) [(.k (.d (.int .u32 1))), (.k (.d (.int .u32 0)))], some (50, true)⟩ ::
⟨(some 53), .eqv false [true, true, true, true, true, true, true, true] (.t 51) (.t 52), some (50, true)⟩ ::
⟨(some 54), .pick (.t 50) (.t 53) (.k (.d (.bool false))), none⟩ ::
⟨(some 55), .mv (.t 54), none⟩ ::
⟨(some 56), .mv (.t 6), some (55, true)⟩ ::
⟨(some 57), .bin .eql (.t 56) (.k (.d (.int .i64 0))), some (55, true)⟩ ::
⟨(some 58), .pick (.t 55) (.t 57) (.k (.d (.bool false))), none⟩ ::
⟨(some 59), .mv (.t 58), none⟩ ::
⟨(some 60), .load (some 8) (.t 7), some (59, true)⟩ ::
⟨(some 61), .call (.k (.fn (.func 42) [] [])) [(.k (.d (.int .u32 1))), (.k (.d (.int .u32 0)))], some (59, true)⟩ ::
⟨(some 62), .eqv false [true, true, true, true, true, true, true, true] (.t 60) (.t 61), some (59, true)⟩ ::
⟨(some 63), .pick (.t 59) (.t 62) (.k (.d (.bool false))), none⟩ ::
⟨(some 64), .mv (.t 63), none⟩ ::
⟨(some 65), .mv (.t 8), some (64, true)⟩ ::
⟨(some 66), .bin .eql (.t 65) (.k (.d (.int .i64 1))), some (64, true)⟩ ::
⟨(some 67), .pick (.t 64) (.t 66) (.k (.d (.bool false))), none⟩ ::
⟨(some 68), .mv (.t 67), none⟩ ::
⟨(some 69), .mv (.t 9), some (68, true)⟩ ::
⟨(some 70), .bin .eql (.t 69) (.k (.d (.int .i64 0))), some (68, true)⟩ ::
⟨(some 71), .pick (.t 68) (.t 70) (.k (.d (.bool false))), none⟩ ::
⟨(some 72), .mv (.t 71), none⟩ ::
⟨(some 73), .load (some 8) (.t 10), some (72, true)⟩ ::
⟨(some 74), .call (.k (.fn (.func 42) [] [])) [(.k (.d (.int .u32 2))), (.k (.d (.int .u32 1)))], some (72, true)⟩ ::
⟨(some 75), .eqv false [true, true, true, true, true, true, true, true] (.t 73) (.t 74), some (72, true)⟩ ::
⟨(some 76), .pick (.t 72) (.t 75) (.k (.d (.bool false))), none⟩ ::
⟨(some 77), .mv (.t 76), none⟩ ::
⟨(some 78), .mv (.t 11), some (77, true)⟩ ::
⟨(some 79), .bin .eql (.t 78) (.k (.d (.int .i64 0))), some (77, true)⟩ ::
⟨(some 80), .pick (.t 77) (.t 79) (.k (.d (.bool false))), none⟩ ::
⟨(some 81), .mv (.t 80), none⟩ ::
⟨(some 82), .mv (.t 1), some (81, true)⟩ ::
⟨(some 83), .call (.k (.fn (.func 42) [] [])) [(.k (.d (.int .u32 1))), (.k (.d (.int .u32 1)))], some (81, true)⟩ ::
⟨(some 84), .call (.k (.fn (.func 12) [] [])) [(.t 82), (.t 83)], some (81, true)⟩ ::
⟨(some 85), .bin .eql (.t 84) (.k (.d (.int .i64 9))), some (81, true)⟩ ::
⟨(some 86), .pick (.t 81) (.t 85) (.k (.d (.bool false))), none⟩ ::
⟨(some 87), .mv (.t 86), none⟩ ::
⟨(some 88), .mv (.t 1), some (87, true)⟩ ::
⟨(some 89), .call (.k (.fn (.func 42) [] [])) [(.k (.d (.int .u32 0))), (.k (.d (.int .u32 0)))], some (87, true)⟩ ::
⟨(some 90), .call (.k (.fn (.func 15) [] [])) [(.t 88), (.k (.d (.int .u8 2))), (.t 89)], some (87, true)⟩ ::
⟨(some 91), .bin .eql (.t 90) (.k (.d (.int .i64 2))), some (87, true)⟩ ::
⟨(some 92), .pick (.t 87) (.t 91) (.k (.d (.bool false))), none⟩ ::
⟨(some 93), .mv (.t 92), none⟩ ::
⟨(some 94), .mv (.t 1), some (93, true)⟩ ::
⟨(some 95), .call (.k (.fn (.func 42) [] [])) [(.k (.d (.int .u32 9))), (.k (.d (.int .u32 0)))], some (93, true)⟩ ::
⟨(some 96), .call (.k (.fn (.func 15) [] [])) [(.t 94), (.k (.d (.int .u8 0))), (.t 95)], some (93, true)⟩ ::
⟨(some 97), .bin .eql (.t 96) (.k (.d (.int .i64 9))), some (93, true)⟩ ::
⟨(some 98), .pick (.t 93) (.t 97) (.k (.d (.bool false))), none⟩ ::
⟨(some 0), .mv (.t 98), none⟩ :: []) (0 ::
1 ::
3 ::
7 ::
15 ::
31 ::
63 ::
127 ::
127 ::
511 ::
1023 ::
2047 ::
4095 ::
8191 ::
16383 ::
32767 ::
65535 ::
65535 ::
262143 ::
524287 ::
1048575 ::
2097151 ::
4194303 ::
8388607 ::
16777215 ::
33554431 ::
67108863 ::
134217727 ::
268435455 ::
536870911 ::
536870911 ::
2147483647 ::
4294967295 ::
8589934591 ::
17179869183 ::
34359738367 ::
68719476735 ::
137438953471 ::
274877906943 ::
274877906943 ::
1099511627775 ::
2199023255551 ::
4398046511103 ::
8796093022207 ::
17592186044415 ::
17592186044415 ::
70368744177663 ::
140737488355327 ::
281474976710655 ::
562949953421311 ::
1125899906842623 ::
1125899906842623 ::
4503599627370495 ::
9007199254740991 ::
18014398509481983 ::
36028797018963967 :: []) true)
 .ret)))))))
def rv : List RV := [.tmp 0]
theorem c : cK Try.prog Try.f13.ntmps (Try.f13.body.getD .ret) = some s := by kernel_rfl
theorem b : Try.f13.body = some (Try.f13.body.getD .ret) := by kernel_rfl
theorem r : cRV Try.prog Try.f13.results.toList = some rv := by kernel_rfl
theorem ca : Callable Try.prog 13 = true := by kernel_rfl
theorem enter {args : List SV} {F : Hp} {k nk : Nat} {Q : SV → Hp → Prop} (hargs : SV.oks (fun n => decide (n < k)) args = true) (hF : F.ok (fun n => decide (n < k)) = true) (hN : args.length ≤ 99)
    (h : SW Try.prog 99 k s ⟨argE 0 args, F, k⟩ fun e st' => match e with | .normal => Fin k nk rv Q st' | .ret => Fin k nk rv Q st' | _ => False) : SB Try.prog 13 args F k nk Q :=
  SB.of_body Try.func13 b c r ca hargs hF hN h
end law12_head
namespace ref10_Known
end ref10_Known
namespace stable_Tracker_Hear
abbrev f : Nat := 15
def s : SCo := (.seq
(.reg [⟨(some 5), .box 25 (.t 2), none⟩,
⟨(some 6), .mv (.k (.d (.int .i64 0))), none⟩] (fullB 2) false)
(.seq
(.block 0
(.seq
 (.reg [⟨(some 8), .mv (.t 0), none⟩,
⟨(some 9), .call (.k (.fn (.func 38) [] [])) [(.t 8)], none⟩,
⟨(some 7), .mv (.t 9), none⟩] (fullB 3) false)
 (.cond (.t 7)
 (.seq
 (.reg [⟨(some 6), .mv (.k (.d (.int .i64 1))), none⟩] (fullB 1) false)
 .ret)
 (.seq
 (.reg [⟨(some 11), .mv (.t 1), none⟩,
⟨(some 12), .conv .i64 (.t 11), none⟩,
⟨(some 13), .mv (.t 0), none⟩,
⟨(some 14), .nilc (.t 13), none⟩,
⟨(some 15), .fld 0 (.t 14), none⟩,
⟨(some 16), .load none (.t 15), none⟩,
⟨(some 17), .bin .geq (.t 12) (.t 16), none⟩,
⟨(some 18), .mv (.t 17), none⟩,
⟨(some 19), .mv (.t 0), some (18, false)⟩,
⟨(some 20), .load (some 8) (.t 5), some (18, false)⟩,
⟨(some 21), .call (.k (.fn (.func 39) [] [])) [(.t 19), (.t 20)], some (18, false)⟩,
⟨(some 22), .not (.t 21), some (18, false)⟩,
⟨(some 23), .pick (.t 18) (.k (.d (.bool true))) (.t 22), none⟩,
⟨(some 10), .mv (.t 23), none⟩] (fullB 14) false)
 (.cond (.t 10)
 (.seq
  (.reg [⟨(some 6), .mv (.k (.d (.int .i64 2))), none⟩] (fullB 1) false)
  .ret)
 (.seq
  (.reg (⟨(some 25), .mv (.t 1), none⟩ ::
⟨(some 26), .mv (.t 0), none⟩ ::
⟨(some 27), .nilc (.t 26), none⟩ ::
⟨(some 28), .fld 1 (.t 27), none⟩ ::
⟨(some 29), .load none (.t 28), none⟩ ::
⟨(some 30), .bin .eql (.t 25) (.t 29), none⟩ ::
⟨(some 31), .mv (.t 30), none⟩ ::
⟨(some 32), .mv (.t 0), some (31, true)⟩ ::
⟨(some 33), .nilc (.t 32), some (31, true)⟩ ::
⟨(some 34), .fld 2 (.t 33), some (31, true)⟩ ::
⟨(some 35), .load (some 8) (.t 34), some (31, true)⟩ ::
⟨(some 36), .load (some 8) (.t 5), some (31, true)⟩ ::
⟨(some 37), .call (.k (.fn (.func 40) [] [])) [(.t 35), (.t 36)], some (31, true)⟩ ::
⟨(some 38), .not (.t 37), some (31, true)⟩ ::
⟨(some 39), .pick (.t 31) (.t 38) (.k (.d (.bool false))), none⟩ ::
⟨(some 24), .mv (.t 39), none⟩ :: []) (0 ::
0 ::
2 ::
6 ::
14 ::
31 ::
63 ::
127 ::
255 ::
511 ::
1023 ::
127 ::
4095 ::
8191 ::
16383 ::
32767 :: []) true)
  (.cond (.t 24)
  (.seq
  (.reg [⟨(some 6), .mv (.k (.d (.int .i64 9))), none⟩] (fullB 1) false)
  .ret)
  (.seq
  (.reg [⟨(some 41), .mv (.t 1), none⟩,
⟨(some 42), .mv (.t 0), none⟩,
⟨(some 43), .nilc (.t 42), none⟩,
⟨(some 44), .fld 1 (.t 43), none⟩,
⟨(some 45), .load none (.t 44), none⟩,
⟨(some 46), .bin .eql (.t 41) (.t 45), none⟩,
⟨(some 40), .mv (.t 46), none⟩] (fullB 7) false)
  (.cond (.t 40)
  (.seq
   (.reg [⟨(some 6), .mv (.k (.d (.int .i64 0))), none⟩] (fullB 1) false)
   .ret)
  .skip)))))))))
(.seq
(.seq
 (.reg [⟨(some 47), .mv (.t 0), none⟩,
⟨(some 48), .mv (.t 1), none⟩,
⟨(some 49), .nilc (.t 47), none⟩,
⟨(some 50), .fld 74 (.t 49), none⟩,
⟨(some 51), .idxA 8 1 (.t 50) (.t 48), none⟩,
⟨(some 52), .load none (.t 51), none⟩,
⟨(some 53), .eqnil false 1 (.t 52), none⟩] (fullB 7) false)
 (.cond (.t 53)
 (.reg [⟨(some 54), .mv (.t 0), none⟩,
⟨(some 55), .mv (.t 1), none⟩,
⟨(some 56), .mkm, none⟩,
⟨(some 57), .nilc (.t 54), none⟩,
⟨(some 58), .fld 74 (.t 57), none⟩,
⟨(some 59), .idxA 8 1 (.t 58) (.t 55), none⟩,
⟨none, .store 1 (.t 59) (.t 56), none⟩] (fullB 7) false)
 .skip))
(.seq
 (.reg [⟨(some 60), .mv (.t 0), none⟩,
⟨(some 61), .mv (.t 1), none⟩,
⟨(some 62), .nilc (.t 60), none⟩,
⟨(some 63), .fld 74 (.t 62), none⟩,
⟨(some 64), .idxA 8 1 (.t 63) (.t 61), none⟩,
⟨(some 65), .load none (.t 64), none⟩,
⟨(some 66), .load (some 8) (.t 5), none⟩,
⟨none, .mset [true, true, true, true, true, true, true, true] true (.t 65) (.t 66) (.k (.d (.int .i64 1))), none⟩] [0,
0,
1,
5,
15,
31,
0,
127] true)
 (.seq
 (.reg [⟨(some 67), .mv (.t 0), none⟩,
⟨(some 68), .call (.k (.fn (.func 41) [] [])) [(.t 67)], none⟩] (fullB 2) false)
 (.seq
 (.reg [⟨(some 6), .mv (.k (.d (.int .i64 0))), none⟩] (fullB 1) false)
 .ret))))))
def rv : List RV := [.tmp 6]
theorem c : cK Try.prog Try.f15.ntmps (Try.f15.body.getD .ret) = some s := by kernel_rfl
theorem b : Try.f15.body = some (Try.f15.body.getD .ret) := by kernel_rfl
theorem r : cRV Try.prog Try.f15.results.toList = some rv := by kernel_rfl
theorem ca : Callable Try.prog 15 = true := by kernel_rfl
theorem enter {args : List SV} {F : Hp} {k nk : Nat} {Q : SV → Hp → Prop} (hargs : SV.oks (fun n => decide (n < k)) args = true) (hF : F.ok (fun n => decide (n < k)) = true) (hN : args.length ≤ 69)
    (h : SW Try.prog 69 k s ⟨argE 0 args, F, k⟩ fun e st' => match e with | .normal => Fin k nk rv Q st' | .ret => Fin k nk rv Q st' | _ => False) : SB Try.prog 15 args F k nk Q :=
  SB.of_body Try.func15 b c r ca hargs hF hN h
end stable_Tracker_Hear
namespace stable_Tracker_Stable
abbrev f : Nat := 16
def s : SCo := (.seq
(.reg [⟨(some 2), .alloc 25 [(.d (.int .u32 0)), (.d (.int .u32 0)), (.d (.int .u32 0)), (.d (.int .u32 0)), (.d (.int .u32 0)), (.d (.int .u32 0)), (.d (.int .u32 0)), (.d (.int .u32 0))], none⟩] (fullB 1) false)
(.seq
(.seq
(.reg [⟨(some 3), .mv (.t 0), none⟩,
⟨(some 4), .call (.k (.fn (.func 38) [] [])) [(.t 3)], none⟩] (fullB 2) false)
(.cond (.t 4)
 (.seq
 (.reg [⟨(some 5), .bld [(.d (.int .u32 0)), (.d (.int .u32 0)), (.d (.int .u32 0)), (.d (.int .u32 0)), (.d (.int .u32 0)), (.d (.int .u32 0)), (.d (.int .u32 0)), (.d (.int .u32 0))] [], none⟩,
⟨none, .store 8 (.t 2) (.t 5), none⟩] (fullB 2) false)
 .ret)
 .skip))
(.seq
(.reg [⟨(some 6), .mv (.t 0), none⟩,
⟨(some 7), .nilc (.t 6), none⟩,
⟨(some 8), .fld 10 (.t 7), none⟩,
⟨(some 9), .mv (.t 0), none⟩,
⟨(some 10), .nilc (.t 9), none⟩,
⟨(some 11), .fld 0 (.t 10), none⟩,
⟨(some 12), .load none (.t 11), none⟩,
⟨(some 13), .slcA 8 8 (.t 8) none (some (.t 12)), none⟩,
⟨(some 14), .call (.k (.fn (.func 43) [] [])) [(.t 13)], none⟩,
⟨none, .store 8 (.t 2) (.t 14), none⟩] [0,
1,
3,
0,
8,
24,
56,
127,
255,
511] true)
.ret)))
def rv : List RV := [.cell 2 (some 8)]
theorem c : cK Try.prog Try.f16.ntmps (Try.f16.body.getD .ret) = some s := by kernel_rfl
theorem b : Try.f16.body = some (Try.f16.body.getD .ret) := by kernel_rfl
theorem r : cRV Try.prog Try.f16.results.toList = some rv := by kernel_rfl
theorem ca : Callable Try.prog 16 = true := by kernel_rfl
theorem enter {args : List SV} {F : Hp} {k nk : Nat} {Q : SV → Hp → Prop} (hargs : SV.oks (fun n => decide (n < k)) args = true) (hF : F.ok (fun n => decide (n < k)) = true) (hN : args.length ≤ 15)
    (h : SW Try.prog 15 k s ⟨argE 0 args, F, k⟩ fun e st' => match e with | .normal => Fin k nk rv Q st' | .ret => Fin k nk rv Q st' | _ => False) : SB Try.prog 16 args F k nk Q :=
  SB.of_body Try.func16 b c r ca hargs hF hN h
end stable_Tracker_Stable
namespace ref04_Covers
end ref04_Covers
namespace ref04_Above
abbrev f : Nat := 18
def s : SCo := (.seq
(.reg [⟨(some 2), .box 25 (.t 0), none⟩,
⟨(some 3), .box 25 (.t 1), none⟩,
⟨(some 4), .mv (.k (.d (.bool false))), none⟩] (fullB 3) false)
(.seq
(.seq
(.reg [⟨(some 5), .mv (.k (.d (.int .i64 0))), none⟩] (fullB 1) false)
(.block 0
 (.loop
 (.seq
 (.seq
 (.reg [⟨(some 6), .mv (.t 5), none⟩,
⟨(some 7), .bin .lss (.t 6) (.k (.d (.int .i64 8))), none⟩] (fullB 2) false)
 (.cond (.t 7)
  .skip
  (.exit 0)))
 (.seq
 (.block 1
  (.seq
  (.reg [⟨(some 10), .mv (.t 5), none⟩,
⟨(some 11), .idxA 8 1 (.t 2) (.t 10), none⟩,
⟨(some 12), .load none (.t 11), none⟩,
⟨(some 13), .mv (.t 5), none⟩,
⟨(some 14), .idxA 8 1 (.t 3) (.t 13), none⟩,
⟨(some 15), .load none (.t 14), none⟩,
⟨(some 16), .bin .lss (.t 12) (.t 15), none⟩] [0,
1,
3,
0,
8,
24,
63] true)
  (.cond (.t 16)
  (.seq
  (.reg [⟨(some 4), .mv (.k (.d (.bool false))), none⟩] (fullB 1) false)
  .ret)
  .skip)))
 (.reg [⟨(some 8), .mv (.t 5), none⟩,
⟨(some 9), .bin .add (.t 8) (.k (.d (.int .i64 1))), none⟩,
⟨(some 5), .mv (.t 9), none⟩] (fullB 3) false))))))
(.seq
(.reg [⟨(some 4), .mv (.k (.d (.bool true))), none⟩] (fullB 1) false)
.ret)))
def rv : List RV := [.tmp 4]
theorem c : cK Try.prog Try.f18.ntmps (Try.f18.body.getD .ret) = some s := by kernel_rfl
theorem b : Try.f18.body = some (Try.f18.body.getD .ret) := by kernel_rfl
theorem r : cRV Try.prog Try.f18.results.toList = some rv := by kernel_rfl
theorem ca : Callable Try.prog 18 = true := by kernel_rfl
theorem enter {args : List SV} {F : Hp} {k nk : Nat} {Q : SV → Hp → Prop} (hargs : SV.oks (fun n => decide (n < k)) args = true) (hF : F.ok (fun n => decide (n < k)) = true) (hN : args.length ≤ 17)
    (h : SW Try.prog 17 k s ⟨argE 0 args, F, k⟩ fun e st' => match e with | .normal => Fin k nk rv Q st' | .ret => Fin k nk rv Q st' | _ => False) : SB Try.prog 18 args F k nk Q :=
  SB.of_body Try.func18 b c r ca hargs hF hN h
end ref04_Above
namespace law16_head
end law16_head
namespace ref10_Sort
end ref10_Sort
namespace tree_New
end tree_New
namespace tree_Tree_Get
end tree_Tree_Get
namespace tree_Tree_Chain
end tree_Tree_Chain
namespace ref03_Same
end ref03_Same
namespace stable_Tracker_Copy
abbrev f : Nat := 25
def s : SCo := (.seq
(.reg [⟨(some 2), .mv (.k (.d .nilp)), none⟩] (fullB 1) false)
(.seq
(.seq
(.reg [⟨(some 6), .mv (.t 0), none⟩,
⟨(some 7), .call (.k (.fn (.func 38) [] [])) [(.t 6)], none⟩] (fullB 2) false)
(.cond (.t 7)
 (.seq
 (.reg [⟨(some 2), .mv (.k (.d .nilp)), none⟩] (fullB 1) false)
 .ret)
 .skip))
(.seq
(.reg [⟨(some 8), .mv (.t 0), none⟩,
⟨(some 9), .nilc (.t 8), none⟩,
⟨(some 10), .load (some 82) (.t 9), none⟩,
⟨(some 3), .alloc 86 [(.d (.int .i64 0)), (.d (.int .u8 0)), (.d (.int .u32 0)), (.d (.int .u32 0)), (.d (.int .u32 0)), (.d (.int .u32 0)), (.d (.int .u32 0)), (.d (.int .u32 0)), (.d (.int .u32 0)), (.d (.int .u32 0)), (.d (.int .u32 0)), (.d (.int .u32 0)), (.d (.int .u32 0)), (.d (.int .u32 0)), (.d (.int .u32 0)), (.d (.int .u32 0)), (.d (.int .u32 0)), (.d (.int .u32 0)), (.d (.int .u32 0)), (.d (.int .u32 0)), (.d (.int .u32 0)), (.d (.int .u32 0)), (.d (.int .u32 0)), (.d (.int .u32 0)), (.d (.int .u32 0)), (.d (.int .u32 0)), (.d (.int .u32 0)), (.d (.int .u32 0)), (.d (.int .u32 0)), (.d (.int .u32 0)), (.d (.int .u32 0)), (.d (.int .u32 0)), (.d (.int .u32 0)), (.d (.int .u32 0)), (.d (.int .u32 0)), (.d (.int .u32 0)), (.d (.int .u32 0)), (.d (.int .u32 0)), (.d (.int .u32 0)), (.d (.int .u32 0)), (.d (.int .u32 0)), (.d (.int .u32 0)), (.d (.int .u32 0)), (.d (.int .u32 0)), (.d (.int .u32 0)), (.d (.int .u32 0)), (.d (.int .u32 0)), (.d (.int .u32 0)), (.d (.int .u32 0)), (.d (.int .u32 0)), (.d (.int .u32 0)), (.d (.int .u32 0)), (.d (.int .u32 0)), (.d (.int .u32 0)), (.d (.int .u32 0)), (.d (.int .u32 0)), (.d (.int .u32 0)), (.d (.int .u32 0)), (.d (.int .u32 0)), (.d (.int .u32 0)), (.d (.int .u32 0)), (.d (.int .u32 0)), (.d (.int .u32 0)), (.d (.int .u32 0)), (.d (.int .u32 0)), (.d (.int .u32 0)), (.d (.int .u32 0)), (.d (.int .u32 0)), (.d (.int .u32 0)), (.d (.int .u32 0)), (.d (.int .u32 0)), (.d (.int .u32 0)), (.d (.int .u32 0)), (.d (.int .u32 0)), (.d .nilm), (.d .nilm), (.d .nilm), (.d .nilm), (.d .nilm), (.d .nilm), (.d .nilm), (.d .nilm)], none⟩,
⟨none, .store 82 (.t 3) (.t 10), none⟩] (fullB 5) false)
(.seq
 (.seq
 (.reg [⟨(some 11), .mv (.t 0), none⟩,
⟨(some 12), .nilc (.t 11), none⟩,
⟨(some 13), .fld 74 (.t 12), none⟩,
⟨(some 14), .load (some 8) (.t 13), none⟩,
⟨(some 15), .mv (.k (.d (.int .i64 0))), none⟩] (fullB 5) false)
 (.block 0
 (.loop
 (.seq
  (.reg [⟨(some 16), .bin .lss (.t 15) (.k (.d (.int .i64 8))), none⟩] (fullB 1) false)
  (.seq
  (.cond (.t 16)
  .skip
  (.exit 0))
  (.seq
  (.block 1
  (.seq
   (.reg [⟨(some 17), .mv (.t 15), none⟩,
⟨(some 18), .index 8 1 false (.t 14) (.t 15), none⟩,
⟨(some 4), .mv (.t 17), none⟩,
⟨(some 5), .mv (.t 18), none⟩] (fullB 4) false)
   (.reg [⟨(some 19), .mv (.t 4), none⟩,
⟨(some 20), .mv (.t 5), none⟩,
⟨(some 21), .call (.k (.fn (.func 58) [] [])) [(.t 20)], none⟩,
⟨(some 22), .fld 74 (.t 3), none⟩,
⟨(some 23), .idxA 8 1 (.t 22) (.t 19), none⟩,
⟨none, .store 1 (.t 23) (.t 21), none⟩] (fullB 6) false)))
  (.reg [⟨(some 24), .bin .add (.t 15) (.k (.d (.int .i64 1))), none⟩,
⟨(some 15), .mv (.t 24), none⟩] (fullB 2) false)))))))
 (.seq
 (.reg [⟨(some 2), .mv (.t 3), none⟩] (fullB 1) false)
 .ret)))))
def rv : List RV := [.tmp 2]
theorem c : cK Try.prog Try.f25.ntmps (Try.f25.body.getD .ret) = some s := by kernel_rfl
theorem b : Try.f25.body = some (Try.f25.body.getD .ret) := by kernel_rfl
theorem r : cRV Try.prog Try.f25.results.toList = some rv := by kernel_rfl
theorem ca : Callable Try.prog 25 = true := by kernel_rfl
theorem enter {args : List SV} {F : Hp} {k nk : Nat} {Q : SV → Hp → Prop} (hargs : SV.oks (fun n => decide (n < k)) args = true) (hF : F.ok (fun n => decide (n < k)) = true) (hN : args.length ≤ 25)
    (h : SW Try.prog 25 k s ⟨argE 0 args, F, k⟩ fun e st' => match e with | .normal => Fin k nk rv Q st' | .ret => Fin k nk rv Q st' | _ => False) : SB Try.prog 25 args F k nk Q :=
  SB.of_body Try.func25 b c r ca hargs hF hN h
end stable_Tracker_Copy
namespace stable_Tracker_Counts
abbrev f : Nat := 26
def s : SCo := (.seq
(.reg [⟨(some 4), .alloc 25 [(.d (.int .u32 0)), (.d (.int .u32 0)), (.d (.int .u32 0)), (.d (.int .u32 0)), (.d (.int .u32 0)), (.d (.int .u32 0)), (.d (.int .u32 0)), (.d (.int .u32 0))], none⟩,
⟨(some 5), .mv (.k (.d (.int .i64 0))), none⟩] (fullB 2) false)
(.seq
(.block 0
(.seq
 (.reg [⟨(some 7), .mv (.t 0), none⟩,
⟨(some 8), .call (.k (.fn (.func 38) [] [])) [(.t 7)], none⟩,
⟨(some 6), .mv (.t 8), none⟩] (fullB 3) false)
 (.cond (.t 6)
 (.seq
 (.reg [⟨(some 9), .bld [(.d (.int .u32 0)), (.d (.int .u32 0)), (.d (.int .u32 0)), (.d (.int .u32 0)), (.d (.int .u32 0)), (.d (.int .u32 0)), (.d (.int .u32 0)), (.d (.int .u32 0))] [], none⟩,
⟨none, .store 8 (.t 4) (.t 9), none⟩,
⟨(some 5), .mv (.k (.d (.int .i64 1))), none⟩] (fullB 3) false)
 .ret)
 (.seq
 (.reg [⟨(some 11), .mv (.t 1), none⟩,
⟨(some 12), .conv .i64 (.t 11), none⟩,
⟨(some 13), .mv (.t 0), none⟩,
⟨(some 14), .nilc (.t 13), none⟩,
⟨(some 15), .fld 0 (.t 14), none⟩,
⟨(some 16), .load none (.t 15), none⟩,
⟨(some 17), .bin .geq (.t 12) (.t 16), none⟩,
⟨(some 10), .mv (.t 17), none⟩] (fullB 8) false)
 (.cond (.t 10)
 (.seq
  (.reg [⟨(some 18), .bld [(.d (.int .u32 0)), (.d (.int .u32 0)), (.d (.int .u32 0)), (.d (.int .u32 0)), (.d (.int .u32 0)), (.d (.int .u32 0)), (.d (.int .u32 0)), (.d (.int .u32 0))] [], none⟩,
⟨none, .store 8 (.t 4) (.t 18), none⟩,
⟨(some 5), .mv (.k (.d (.int .i64 2))), none⟩] (fullB 3) false)
  .ret)
 .skip)))))
(.seq
(.reg [⟨(some 19), .mv (.t 0), none⟩,
⟨(some 20), .mv (.t 1), none⟩,
⟨(some 21), .nilc (.t 19), none⟩,
⟨(some 22), .fld 10 (.t 21), none⟩,
⟨(some 23), .idxA 8 8 (.t 22) (.t 20), none⟩,
⟨(some 24), .load (some 8) (.t 23), none⟩,
⟨none, .store 8 (.t 4) (.t 24), none⟩,
⟨(some 5), .mv (.k (.d (.int .i64 0))), none⟩] (fullB 8) false)
.ret)))
def rv : List RV := [.cell 4 (some 8), .tmp 5]
theorem c : cK Try.prog Try.f26.ntmps (Try.f26.body.getD .ret) = some s := by kernel_rfl
theorem b : Try.f26.body = some (Try.f26.body.getD .ret) := by kernel_rfl
theorem r : cRV Try.prog Try.f26.results.toList = some rv := by kernel_rfl
theorem ca : Callable Try.prog 26 = true := by kernel_rfl
theorem enter {args : List SV} {F : Hp} {k nk : Nat} {Q : SV → Hp → Prop} (hargs : SV.oks (fun n => decide (n < k)) args = true) (hF : F.ok (fun n => decide (n < k)) = true) (hN : args.length ≤ 25)
    (h : SW Try.prog 25 k s ⟨argE 0 args, F, k⟩ fun e st' => match e with | .normal => Fin k nk rv Q st' | .ret => Fin k nk rv Q st' | _ => False) : SB Try.prog 26 args F k nk Q :=
  SB.of_body Try.func26 b c r ca hargs hF hN h
end stable_Tracker_Counts
namespace stable_Tracker_Waits
abbrev f : Nat := 27
def s : SCo := (.seq
(.reg [⟨(some 2), .mv (.k (.d (.int .i64 0))), none⟩] (fullB 1) false)
(.seq
(.seq
(.reg [⟨(some 6), .mv (.t 0), none⟩,
⟨(some 7), .call (.k (.fn (.func 38) [] [])) [(.t 6)], none⟩] (fullB 2) false)
(.cond (.t 7)
 (.seq
 (.reg [⟨(some 2), .mv (.k (.d (.int .i64 0))), none⟩] (fullB 1) false)
 .ret)
 .skip))
(.seq
(.reg [⟨(some 3), .mv (.k (.d (.int .i64 0))), none⟩] (fullB 1) false)
(.seq
 (.seq
 (.reg [⟨(some 8), .mv (.t 0), none⟩,
⟨(some 9), .nilc (.t 8), none⟩,
⟨(some 10), .fld 74 (.t 9), none⟩,
⟨(some 11), .load (some 8) (.t 10), none⟩,
⟨(some 12), .mv (.k (.d (.int .i64 0))), none⟩] (fullB 5) false)
 (.block 0
 (.loop
 (.seq
  (.reg [⟨(some 13), .bin .lss (.t 12) (.k (.d (.int .i64 8))), none⟩] (fullB 1) false)
  (.seq
  (.cond (.t 13)
  .skip
  (.exit 0))
  (.seq
  (.block 1
  (.seq
   (.reg [⟨(some 14), .index 8 1 false (.t 11) (.t 12), none⟩,
⟨(some 5), .mv (.t 14), none⟩] (fullB 2) false)
   (.reg [⟨(some 15), .mv (.t 3), none⟩,
⟨(some 16), .mv (.t 5), none⟩,
⟨(some 17), .mlen (.t 16), none⟩,
⟨(some 18), .bin .add (.t 15) (.t 17), none⟩,
⟨(some 3), .mv (.t 18), none⟩] (fullB 5) false)))
  (.reg [⟨(some 19), .bin .add (.t 12) (.k (.d (.int .i64 1))), none⟩,
⟨(some 12), .mv (.t 19), none⟩] (fullB 2) false)))))))
 (.seq
 (.reg [⟨(some 20), .mv (.t 3), none⟩,
⟨(some 2), .mv (.t 20), none⟩] (fullB 2) false)
 .ret)))))
def rv : List RV := [.tmp 2]
theorem c : cK Try.prog Try.f27.ntmps (Try.f27.body.getD .ret) = some s := by kernel_rfl
theorem b : Try.f27.body = some (Try.f27.body.getD .ret) := by kernel_rfl
theorem r : cRV Try.prog Try.f27.results.toList = some rv := by kernel_rfl
theorem ca : Callable Try.prog 27 = true := by kernel_rfl
theorem enter {args : List SV} {F : Hp} {k nk : Nat} {Q : SV → Hp → Prop} (hargs : SV.oks (fun n => decide (n < k)) args = true) (hF : F.ok (fun n => decide (n < k)) = true) (hN : args.length ≤ 21)
    (h : SW Try.prog 21 k s ⟨argE 0 args, F, k⟩ fun e st' => match e with | .normal => Fin k nk rv Q st' | .ret => Fin k nk rv Q st' | _ => False) : SB Try.prog 27 args F k nk Q :=
  SB.of_body Try.func27 b c r ca hargs hF hN h
end stable_Tracker_Waits
namespace ref12_New
abbrev f : Nat := 28
def s : SCo := (.seq
(.reg [⟨(some 4), .alloc 69 [(.d (.int .i64 0)), (.d (.int .u8 0)), (.d (.int .u32 0)), (.d (.int .u32 0)), (.d (.int .u32 0)), (.d (.int .u32 0)), (.d (.int .u32 0)), (.d (.int .u32 0)), (.d (.int .u32 0)), (.d (.int .u32 0)), (.d .nils)], none⟩,
⟨(some 5), .mv (.k (.d (.int .i64 0))), none⟩] (fullB 2) false)
(.seq
(.seq
(.reg [⟨(some 6), .mv (.t 0), none⟩,
⟨(some 7), .bin .lss (.t 6) (.k (.d (.int .i64 1))), none⟩,
⟨(some 8), .mv (.t 7), none⟩,
⟨(some 9), .mv (.t 0), some (8, false)⟩,
⟨(some 10), .bin .gtr (.t 9) (.k (.d (.int .i64 8))), some (8, false)⟩,
⟨(some 11), .pick (.t 8) (.k (.d (.bool true))) (.t 10), none⟩,
⟨(some 12), .mv (.t 11), none⟩,
⟨(some 13), .mv (.t 1), some (12, false)⟩,
⟨(some 14), .conv .i64 (.t 13), some (12, false)⟩,
⟨(some 15), .mv (.t 0), some (12, false)⟩,
⟨(some 16), .bin .geq (.t 14) (.t 15), some (12, false)⟩,
⟨(some 17), .pick (.t 12) (.k (.d (.bool true))) (.t 16), none⟩] (fullB 12) false)
(.cond (.t 17)
 (.seq
 (.reg [⟨(some 18), .bld [(.d (.int .i64 0)), (.d (.int .u8 0)), (.d (.int .u32 0)), (.d (.int .u32 0)), (.d (.int .u32 0)), (.d (.int .u32 0)), (.d (.int .u32 0)), (.d (.int .u32 0)), (.d (.int .u32 0)), (.d (.int .u32 0)), (.d .nils)] [], none⟩,
⟨none, .store 11 (.t 4) (.t 18), none⟩,
⟨(some 5), .mv (.k (.d (.int .i64 2))), none⟩] (fullB 3) false)
 .ret)
 .skip))
(.seq
(.reg [⟨(some 19), .mv (.t 0), none⟩,
⟨(some 20), .mv (.t 1), none⟩,
⟨(some 21), .bld [(.d (.int .i64 0)), (.d (.int .u8 0)), (.d (.int .u32 0)), (.d (.int .u32 0)), (.d (.int .u32 0)), (.d (.int .u32 0)), (.d (.int .u32 0)), (.d (.int .u32 0)), (.d (.int .u32 0)), (.d (.int .u32 0)), (.d .nils)] [(0, 1, (.t 19)), (1, 1, (.t 20))], none⟩,
⟨none, .store 11 (.t 4) (.t 21), none⟩,
⟨(some 5), .mv (.k (.d (.int .i64 0))), none⟩] (fullB 5) false)
.ret)))
def rv : List RV := [.cell 4 (some 11), .tmp 5]
theorem c : cK Try.prog Try.f28.ntmps (Try.f28.body.getD .ret) = some s := by kernel_rfl
theorem b : Try.f28.body = some (Try.f28.body.getD .ret) := by kernel_rfl
theorem r : cRV Try.prog Try.f28.results.toList = some rv := by kernel_rfl
theorem ca : Callable Try.prog 28 = true := by kernel_rfl
theorem enter {args : List SV} {F : Hp} {k nk : Nat} {Q : SV → Hp → Prop} (hargs : SV.oks (fun n => decide (n < k)) args = true) (hF : F.ok (fun n => decide (n < k)) = true) (hN : args.length ≤ 22)
    (h : SW Try.prog 22 k s ⟨argE 0 args, F, k⟩ fun e st' => match e with | .normal => Fin k nk rv Q st' | .ret => Fin k nk rv Q st' | _ => False) : SB Try.prog 28 args F k nk Q :=
  SB.of_body Try.func28 b c r ca hargs hF hN h
end ref12_New
namespace law12_does
abbrev f : Nat := 29
def s : SCo := (.seq
(.reg [⟨(some 4), .box 69 (.t 1), none⟩,
⟨(some 5), .box 61 (.t 2), none⟩,
⟨(some 6), .alloc 69 [(.d (.int .i64 0)), (.d (.int .u8 0)), (.d (.int .u32 0)), (.d (.int .u32 0)), (.d (.int .u32 0)), (.d (.int .u32 0)), (.d (.int .u32 0)), (.d (.int .u32 0)), (.d (.int .u32 0)), (.d (.int .u32 0)), (.d .nils)], none⟩,
⟨(some 7), .mv (.k (.d (.bool false))), none⟩] (fullB 4) false)
(.seq
(.seq
(.reg [⟨(some 12), .fld 0 (.t 5), none⟩,
⟨(some 13), .load none (.t 12), none⟩] (fullB 2) false)
(.cond (.t 13)
 (.seq
 (.reg [⟨(some 15), .load (some 11) (.t 4), none⟩,
⟨(some 16), .fld 2 (.t 5), none⟩,
⟨(some 17), .load (some 8) (.t 16), none⟩,
⟨(some 18), .call (.k (.fn (.func 59) [] [])) [(.t 15), (.t 17)], none⟩,
⟨(some 14), .mv (.t 18), none⟩,
⟨(some 19), .ext 0 (.t 14), none⟩,
⟨(some 20), .ext 1 (.t 14), none⟩,
⟨(some 8), .alloc 69 [(.d (.int .i64 0)), (.d (.int .u8 0)), (.d (.int .u32 0)), (.d (.int .u32 0)), (.d (.int .u32 0)), (.d (.int .u32 0)), (.d (.int .u32 0)), (.d (.int .u32 0)), (.d (.int .u32 0)), (.d (.int .u32 0)), (.d .nils)], none⟩,
⟨none, .store 11 (.t 8) (.t 19), none⟩,
⟨(some 9), .mv (.t 20), none⟩] (fullB 10) false)
 (.seq
 (.reg [⟨(some 21), .load (some 11) (.t 8), none⟩,
⟨(some 22), .mv (.t 0), none⟩,
⟨(some 23), .fld 2 (.t 5), none⟩,
⟨(some 24), .load (some 8) (.t 23), none⟩,
⟨(some 25), .call (.k (.fn (.func 12) [] [])) [(.t 22), (.t 24)], none⟩,
⟨(some 26), .mv (.t 9), none⟩,
⟨(some 27), .bin .eql (.t 25) (.t 26), none⟩,
⟨none, .store 11 (.t 6) (.t 21), none⟩,
⟨(some 7), .mv (.t 27), none⟩] [0,
0,
0,
4,
14,
0,
62,
31,
255] true)
 .ret))
 .skip))
(.seq
(.reg [⟨(some 29), .load (some 11) (.t 4), none⟩,
⟨(some 30), .fld 1 (.t 5), none⟩,
⟨(some 31), .load none (.t 30), none⟩,
⟨(some 32), .fld 2 (.t 5), none⟩,
⟨(some 33), .load (some 8) (.t 32), none⟩,
⟨(some 34), .call (.k (.fn (.func 60) [] [])) [(.t 29), (.t 31), (.t 33)], none⟩,
⟨(some 28), .mv (.t 34), none⟩,
⟨(some 35), .ext 0 (.t 28), none⟩,
⟨(some 36), .ext 1 (.t 28), none⟩,
⟨(some 10), .alloc 69 [(.d (.int .i64 0)), (.d (.int .u8 0)), (.d (.int .u32 0)), (.d (.int .u32 0)), (.d (.int .u32 0)), (.d (.int .u32 0)), (.d (.int .u32 0)), (.d (.int .u32 0)), (.d (.int .u32 0)), (.d (.int .u32 0)), (.d .nils)], none⟩,
⟨none, .store 11 (.t 10) (.t 35), none⟩,
⟨(some 11), .mv (.t 36), none⟩] (fullB 12) false)
(.seq
 (.reg [⟨(some 37), .load (some 11) (.t 10), none⟩,
⟨(some 38), .mv (.t 0), none⟩,
⟨(some 39), .fld 1 (.t 5), none⟩,
⟨(some 40), .load none (.t 39), none⟩,
⟨(some 41), .fld 2 (.t 5), none⟩,
⟨(some 42), .load (some 8) (.t 41), none⟩,
⟨(some 43), .call (.k (.fn (.func 15) [] [])) [(.t 38), (.t 40), (.t 42)], none⟩,
⟨(some 44), .mv (.t 11), none⟩,
⟨(some 45), .bin .eql (.t 43) (.t 44), none⟩,
⟨none, .store 11 (.t 6) (.t 37), none⟩,
⟨(some 7), .mv (.t 45), none⟩] [0,
0,
0,
4,
0,
16,
62,
0,
254,
127,
1023] true)
 .ret))))
def rv : List RV := [.cell 6 (some 11), .tmp 7]
theorem c : cK Try.prog Try.f29.ntmps (Try.f29.body.getD .ret) = some s := by kernel_rfl
theorem b : Try.f29.body = some (Try.f29.body.getD .ret) := by kernel_rfl
theorem r : cRV Try.prog Try.f29.results.toList = some rv := by kernel_rfl
theorem ca : Callable Try.prog 29 = true := by kernel_rfl
theorem enter {args : List SV} {F : Hp} {k nk : Nat} {Q : SV → Hp → Prop} (hargs : SV.oks (fun n => decide (n < k)) args = true) (hF : F.ok (fun n => decide (n < k)) = true) (hN : args.length ≤ 46)
    (h : SW Try.prog 46 k s ⟨argE 0 args, F, k⟩ fun e st' => match e with | .normal => Fin k nk rv Q st' | .ret => Fin k nk rv Q st' | _ => False) : SB Try.prog 29 args F k nk Q :=
  SB.of_body Try.func29 b c r ca hargs hF hN h
end law12_does
namespace law12_same
abbrev f : Nat := 30
def s : SCo := (.seq
(.reg [⟨(some 3), .box 69 (.t 1), none⟩,
⟨(some 4), .mv (.k (.d (.bool false))), none⟩] (fullB 2) false)
(.seq
(.seq
(.reg [⟨(some 5), .mv (.k (.d (.int .i64 0))), none⟩] (fullB 1) false)
(.block 0
 (.loop
 (.seq
 (.seq
 (.reg [⟨(some 10), .mv (.t 5), none⟩,
⟨(some 11), .bin .lss (.t 10) (.k (.d (.int .i64 9))), none⟩] (fullB 2) false)
 (.cond (.t 11)
  .skip
  (.exit 0)))
 (.seq
 (.block 1
  (.seq
  (.reg [⟨(some 15), .mv (.t 0), none⟩,
⟨(some 16), .mv (.t 5), none⟩,
⟨(some 17), .conv .u8 (.t 16), none⟩,
⟨(some 18), .call (.k (.fn (.func 26) [] [])) [(.t 15), (.t 17)], none⟩,
⟨(some 14), .mv (.t 18), none⟩,
⟨(some 19), .ext 0 (.t 14), none⟩,
⟨(some 20), .ext 1 (.t 14), none⟩,
⟨(some 6), .alloc 25 [(.d (.int .u32 0)), (.d (.int .u32 0)), (.d (.int .u32 0)), (.d (.int .u32 0)), (.d (.int .u32 0)), (.d (.int .u32 0)), (.d (.int .u32 0)), (.d (.int .u32 0))], none⟩,
⟨none, .store 8 (.t 6) (.t 19), none⟩,
⟨(some 7), .mv (.t 20), none⟩] (fullB 10) false)
  (.seq
  (.reg [⟨(some 22), .load (some 11) (.t 3), none⟩,
⟨(some 23), .mv (.t 5), none⟩,
⟨(some 24), .conv .u8 (.t 23), none⟩,
⟨(some 25), .call (.k (.fn (.func 61) [] [])) [(.t 22), (.t 24)], none⟩,
⟨(some 21), .mv (.t 25), none⟩,
⟨(some 26), .ext 0 (.t 21), none⟩,
⟨(some 27), .ext 1 (.t 21), none⟩,
⟨(some 8), .alloc 25 [(.d (.int .u32 0)), (.d (.int .u32 0)), (.d (.int .u32 0)), (.d (.int .u32 0)), (.d (.int .u32 0)), (.d (.int .u32 0)), (.d (.int .u32 0)), (.d (.int .u32 0))], none⟩,
⟨none, .store 8 (.t 8) (.t 26), none⟩,
⟨(some 9), .mv (.t 27), none⟩] (fullB 10) false)
  (.seq
  (.reg [⟨(some 28), .load (some 8) (.t 6), none⟩,
⟨(some 29), .load (some 8) (.t 8), none⟩,
⟨(some 30), .eqv true [true, true, true, true, true, true, true, true] (.t 28) (.t 29), none⟩,
⟨(some 31), .mv (.t 30), none⟩,
⟨(some 32), .mv (.t 7), some (31, false)⟩,
⟨(some 33), .mv (.t 9), some (31, false)⟩,
⟨(some 34), .bin .neq (.t 32) (.t 33), some (31, false)⟩,
⟨(some 35), .pick (.t 31) (.k (.d (.bool true))) (.t 34), none⟩] (fullB 8) false)
  (.cond (.t 35)
   (.seq
   (.reg [⟨(some 4), .mv (.k (.d (.bool false))), none⟩] (fullB 1) false)
   .ret)
   .skip)))))
 (.reg [⟨(some 12), .mv (.t 5), none⟩,
⟨(some 13), .bin .add (.t 12) (.k (.d (.int .i64 1))), none⟩,
⟨(some 5), .mv (.t 13), none⟩] (fullB 3) false))))))
(.seq
(.reg (⟨(some 36), .mv (.t 0), none⟩ ::
⟨(some 37), .call (.k (.fn (.func 16) [] [])) [(.t 36)], none⟩ ::
⟨(some 38), .load (some 11) (.t 3), none⟩ ::
⟨(some 39), .call (.k (.fn (.func 62) [] [])) [(.t 38)], none⟩ ::
⟨(some 40), .eqv false [true, true, true, true, true, true, true, true] (.t 37) (.t 39), none⟩ ::
⟨(some 41), .mv (.t 40), none⟩ ::
⟨(some 42), .mv (.t 0), some (41, true)⟩ ::
⟨(some 43), .call (.k (.fn (.func 27) [] [])) [(.t 42)], some (41, true)⟩ ::
⟨(some 44), .load (some 11) (.t 3), some (41, true)⟩ ::
⟨(some 45), .call (.k (.fn (.func 63) [] [])) [(.t 44)], some (41, true)⟩ ::
⟨(some 46), .bin .eql (.t 43) (.t 45), some (41, true)⟩ ::
⟨(some 47), .pick (.t 41) (.t 46) (.k (.d (.bool false))), none⟩ ::
⟨(some 48), .mv (.t 47), none⟩ ::
⟨(some 49), .mv (.t 0), some (48, true)⟩ ::
⟨(some 50), .call (.k (.fn (.func 31) [] [])) [(.t 49)], some (48, true)⟩ ::
⟨(some 51), .fld 2 (.t 3), some (48, true)⟩ ::
⟨(some 52), .load (some 8) (.t 51), some (48, true)⟩ ::
⟨(some 53), .eqv false [true, true, true, true, true, true, true, true] (.t 50) (.t 52), some (48, true)⟩ ::
⟨(some 54), .pick (.t 48) (.t 53) (.k (.d (.bool false))), none⟩ ::
⟨(some 4), .mv (.t 54), none⟩ :: []) (0 ::
1 ::
0 ::
7 ::
15 ::
31 ::
63 ::
127 ::
63 ::
511 ::
1023 ::
2047 ::
4095 ::
8191 ::
16383 ::
8191 ::
40959 ::
131071 ::
262143 ::
524287 :: []) true)
.ret)))
def rv : List RV := [.tmp 4]
theorem c : cK Try.prog Try.f30.ntmps (Try.f30.body.getD .ret) = some s := by kernel_rfl
theorem b : Try.f30.body = some (Try.f30.body.getD .ret) := by kernel_rfl
theorem r : cRV Try.prog Try.f30.results.toList = some rv := by kernel_rfl
theorem ca : Callable Try.prog 30 = true := by kernel_rfl
theorem enter {args : List SV} {F : Hp} {k nk : Nat} {Q : SV → Hp → Prop} (hargs : SV.oks (fun n => decide (n < k)) args = true) (hF : F.ok (fun n => decide (n < k)) = true) (hN : args.length ≤ 55)
    (h : SW Try.prog 55 k s ⟨argE 0 args, F, k⟩ fun e st' => match e with | .normal => Fin k nk rv Q st' | .ret => Fin k nk rv Q st' | _ => False) : SB Try.prog 30 args F k nk Q :=
  SB.of_body Try.func30 b c r ca hargs hF hN h
end law12_same
namespace stable_Tracker_Own
abbrev f : Nat := 31
def s : SCo := (.seq
(.reg [⟨(some 2), .alloc 25 [(.d (.int .u32 0)), (.d (.int .u32 0)), (.d (.int .u32 0)), (.d (.int .u32 0)), (.d (.int .u32 0)), (.d (.int .u32 0)), (.d (.int .u32 0)), (.d (.int .u32 0))], none⟩] (fullB 1) false)
(.seq
(.seq
(.reg [⟨(some 3), .mv (.t 0), none⟩,
⟨(some 4), .call (.k (.fn (.func 38) [] [])) [(.t 3)], none⟩] (fullB 2) false)
(.cond (.t 4)
 (.seq
 (.reg [⟨(some 5), .bld [(.d (.int .u32 0)), (.d (.int .u32 0)), (.d (.int .u32 0)), (.d (.int .u32 0)), (.d (.int .u32 0)), (.d (.int .u32 0)), (.d (.int .u32 0)), (.d (.int .u32 0))] [], none⟩,
⟨none, .store 8 (.t 2) (.t 5), none⟩] (fullB 2) false)
 .ret)
 .skip))
(.seq
(.reg [⟨(some 6), .mv (.t 0), none⟩,
⟨(some 7), .nilc (.t 6), none⟩,
⟨(some 8), .fld 2 (.t 7), none⟩,
⟨(some 9), .load (some 8) (.t 8), none⟩,
⟨none, .store 8 (.t 2) (.t 9), none⟩] (fullB 5) false)
.ret)))
def rv : List RV := [.cell 2 (some 8)]
theorem c : cK Try.prog Try.f31.ntmps (Try.f31.body.getD .ret) = some s := by kernel_rfl
theorem b : Try.f31.body = some (Try.f31.body.getD .ret) := by kernel_rfl
theorem r : cRV Try.prog Try.f31.results.toList = some rv := by kernel_rfl
theorem ca : Callable Try.prog 31 = true := by kernel_rfl
theorem enter {args : List SV} {F : Hp} {k nk : Nat} {Q : SV → Hp → Prop} (hargs : SV.oks (fun n => decide (n < k)) args = true) (hF : F.ok (fun n => decide (n < k)) = true) (hN : args.length ≤ 10)
    (h : SW Try.prog 10 k s ⟨argE 0 args, F, k⟩ fun e st' => match e with | .normal => Fin k nk rv Q st' | .ret => Fin k nk rv Q st' | _ => False) : SB Try.prog 31 args F k nk Q :=
  SB.of_body Try.func31 b c r ca hargs hF hN h
end stable_Tracker_Own
namespace ref05_Check
end ref05_Check
namespace ref10_one
end ref10_one
namespace stable_Tracker_none
abbrev f : Nat := 38
def s : SCo := (.seq
(.reg [⟨(some 2), .mv (.k (.d (.bool false))), none⟩] (fullB 1) false)
(.seq
(.reg [⟨(some 3), .mv (.t 0), none⟩,
⟨(some 4), .eqnil false 0 (.t 3), none⟩,
⟨(some 5), .mv (.t 4), none⟩,
⟨(some 6), .mv (.t 0), some (5, false)⟩,
⟨(some 7), .nilc (.t 6), some (5, false)⟩,
⟨(some 8), .fld 0 (.t 7), some (5, false)⟩,
⟨(some 9), .load none (.t 8), some (5, false)⟩,
⟨(some 10), .bin .eql (.t 9) (.k (.d (.int .i64 0))), some (5, false)⟩,
⟨(some 11), .pick (.t 5) (.k (.d (.bool true))) (.t 10), none⟩,
⟨(some 2), .mv (.t 11), none⟩] (fullB 10) false)
.ret))
def rv : List RV := [.tmp 2]
theorem c : cK Try.prog Try.f38.ntmps (Try.f38.body.getD .ret) = some s := by kernel_rfl
theorem b : Try.f38.body = some (Try.f38.body.getD .ret) := by kernel_rfl
theorem r : cRV Try.prog Try.f38.results.toList = some rv := by kernel_rfl
theorem ca : Callable Try.prog 38 = true := by kernel_rfl
theorem enter {args : List SV} {F : Hp} {k nk : Nat} {Q : SV → Hp → Prop} (hargs : SV.oks (fun n => decide (n < k)) args = true) (hF : F.ok (fun n => decide (n < k)) = true) (hN : args.length ≤ 12)
    (h : SW Try.prog 12 k s ⟨argE 0 args, F, k⟩ fun e st' => match e with | .normal => Fin k nk rv Q st' | .ret => Fin k nk rv Q st' | _ => False) : SB Try.prog 38 args F k nk Q :=
  SB.of_body Try.func38 b c r ca hargs hF hN h
end stable_Tracker_none
namespace stable_Tracker_may
abbrev f : Nat := 39
def s : SCo := (.seq
(.reg [⟨(some 3), .box 25 (.t 1), none⟩,
⟨(some 4), .mv (.k (.d (.bool false))), none⟩] (fullB 2) false)
(.seq
(.seq
(.reg [⟨(some 7), .load (some 8) (.t 3), none⟩,
⟨(some 8), .mv (.k (.d (.int .i64 0))), none⟩] (fullB 2) false)
(.block 0
 (.loop
 (.seq
 (.reg [⟨(some 9), .bin .lss (.t 8) (.k (.d (.int .i64 8))), none⟩] (fullB 1) false)
 (.seq
 (.cond (.t 9)
  .skip
  (.exit 0))
 (.seq
  (.block 1
  (.seq
  (.reg [⟨(some 10), .mv (.t 8), none⟩,
⟨(some 11), .index 8 1 false (.t 7) (.t 8), none⟩,
⟨(some 5), .mv (.t 10), none⟩,
⟨(some 6), .mv (.t 11), none⟩] (fullB 4) false)
  (.seq
  (.reg [⟨(some 12), .mv (.t 5), none⟩,
⟨(some 13), .mv (.t 0), none⟩,
⟨(some 14), .nilc (.t 13), none⟩,
⟨(some 15), .fld 0 (.t 14), none⟩,
⟨(some 16), .load none (.t 15), none⟩,
⟨(some 17), .bin .geq (.t 12) (.t 16), none⟩,
⟨(some 18), .mv (.t 17), none⟩,
⟨(some 19), .mv (.t 6), some (18, true)⟩,
⟨(some 20), .bin .gtr (.t 19) (.k (.d (.int .u32 0))), some (18, true)⟩,
⟨(some 21), .pick (.t 18) (.t 20) (.k (.d (.bool false))), none⟩] (fullB 10) false)
  (.cond (.t 21)
   (.seq
   (.reg [⟨(some 4), .mv (.k (.d (.bool false))), none⟩] (fullB 1) false)
   .ret)
   .skip))))
  (.reg [⟨(some 22), .bin .add (.t 8) (.k (.d (.int .i64 1))), none⟩,
⟨(some 8), .mv (.t 22), none⟩] (fullB 2) false)))))))
(.seq
(.reg [⟨(some 4), .mv (.k (.d (.bool true))), none⟩] (fullB 1) false)
.ret)))
def rv : List RV := [.tmp 4]
theorem c : cK Try.prog Try.f39.ntmps (Try.f39.body.getD .ret) = some s := by kernel_rfl
theorem b : Try.f39.body = some (Try.f39.body.getD .ret) := by kernel_rfl
theorem r : cRV Try.prog Try.f39.results.toList = some rv := by kernel_rfl
theorem ca : Callable Try.prog 39 = true := by kernel_rfl
theorem enter {args : List SV} {F : Hp} {k nk : Nat} {Q : SV → Hp → Prop} (hargs : SV.oks (fun n => decide (n < k)) args = true) (hF : F.ok (fun n => decide (n < k)) = true) (hN : args.length ≤ 23)
    (h : SW Try.prog 23 k s ⟨argE 0 args, F, k⟩ fun e st' => match e with | .normal => Fin k nk rv Q st' | .ret => Fin k nk rv Q st' | _ => False) : SB Try.prog 39 args F k nk Q :=
  SB.of_body Try.func39 b c r ca hargs hF hN h
end stable_Tracker_may
namespace vector_Above
abbrev f : Nat := 40
def s : SCo := (.seq
(.reg [⟨(some 2), .box 25 (.t 0), none⟩,
⟨(some 3), .box 25 (.t 1), none⟩,
⟨(some 4), .mv (.k (.d (.bool false))), none⟩] (fullB 3) false)
(.seq
(.reg [⟨(some 5), .load (some 8) (.t 2), none⟩,
⟨(some 6), .load (some 8) (.t 3), none⟩,
⟨(some 7), .bsl 25 8 2 [(.d (.int .u32 0)), (.d (.int .u32 0)), (.d (.int .u32 0)), (.d (.int .u32 0)), (.d (.int .u32 0)), (.d (.int .u32 0)), (.d (.int .u32 0)), (.d (.int .u32 0)), (.d (.int .u32 0)), (.d (.int .u32 0)), (.d (.int .u32 0)), (.d (.int .u32 0)), (.d (.int .u32 0)), (.d (.int .u32 0)), (.d (.int .u32 0)), (.d (.int .u32 0))] [(0, 8, (.t 5)), (8, 8, (.t 6))], none⟩,
⟨(some 8), .call (.k (.fn (.func 87) [] [])) [(.t 7)], none⟩,
⟨(some 9), .load (some 8) (.t 2), none⟩,
⟨(some 10), .eqv false [true, true, true, true, true, true, true, true] (.t 8) (.t 9), none⟩,
⟨(some 4), .mv (.t 10), none⟩] [0,
0,
3,
7,
0,
31,
63] true)
.ret))
def rv : List RV := [.tmp 4]
theorem c : cK Try.prog Try.f40.ntmps (Try.f40.body.getD .ret) = some s := by kernel_rfl
theorem b : Try.f40.body = some (Try.f40.body.getD .ret) := by kernel_rfl
theorem r : cRV Try.prog Try.f40.results.toList = some rv := by kernel_rfl
theorem ca : Callable Try.prog 40 = true := by kernel_rfl
theorem enter {args : List SV} {F : Hp} {k nk : Nat} {Q : SV → Hp → Prop} (hargs : SV.oks (fun n => decide (n < k)) args = true) (hF : F.ok (fun n => decide (n < k)) = true) (hN : args.length ≤ 11)
    (h : SW Try.prog 11 k s ⟨argE 0 args, F, k⟩ fun e st' => match e with | .normal => Fin k nk rv Q st' | .ret => Fin k nk rv Q st' | _ => False) : SB Try.prog 40 args F k nk Q :=
  SB.of_body Try.func40 b c r ca hargs hF hN h
end vector_Above
namespace stable_Tracker_settle
abbrev f : Nat := 41
def s : SCo := (.seq
(.reg [⟨(some 1), .box 27 (.t 0), none⟩] (fullB 1) false)
(.seq
(.reg [⟨(some 4), .mkf (.func 88) [] [(.t 1)], none⟩,
⟨(some 2), .mv (.t 4), none⟩] (fullB 2) false)
(.seq
(.seq
 (.reg [⟨(some 5), .load none (.t 1), none⟩,
⟨(some 6), .nilc (.t 5), none⟩,
⟨(some 7), .fld 0 (.t 6), none⟩,
⟨(some 8), .load none (.t 7), none⟩,
⟨(some 9), .mv (.k (.d (.int .i64 0))), none⟩] (fullB 5) false)
 (.block 0
 (.loop
 (.seq
 (.reg [⟨(some 10), .bin .lss (.t 9) (.t 8), none⟩] (fullB 1) false)
 (.seq
  (.cond (.t 10)
  .skip
  (.exit 0))
  (.seq
  (.block 1
  (.seq
  (.reg [⟨(some 11), .mv (.t 9), none⟩,
⟨(some 3), .mv (.t 11), none⟩] (fullB 2) false)
  (.block 2
   (.loop
   (.seq
   (.seq
   (.reg [⟨(some 12), .mv (.t 2), none⟩,
⟨(some 13), .mv (.t 3), none⟩,
⟨(some 14), .call (.t 12) [(.t 13)], none⟩] (fullB 3) false)
   (.cond (.t 14)
    .skip
    (.exit 2)))
   (.block 3
   .skip))))))
  (.reg [⟨(some 15), .bin .add (.t 9) (.k (.d (.int .i64 1))), none⟩,
⟨(some 9), .mv (.t 15), none⟩] (fullB 2) false)))))))
(.reg [⟨(some 16), .load none (.t 1), none⟩,
⟨(some 17), .load none (.t 1), none⟩,
⟨(some 18), .nilc (.t 17), none⟩,
⟨(some 19), .fld 1 (.t 18), none⟩,
⟨(some 20), .load none (.t 19), none⟩,
⟨(some 21), .load none (.t 1), none⟩,
⟨(some 22), .nilc (.t 21), none⟩,
⟨(some 23), .fld 2 (.t 22), none⟩,
⟨(some 24), .load (some 8) (.t 23), none⟩,
⟨(some 25), .nilc (.t 16), none⟩,
⟨(some 26), .fld 10 (.t 25), none⟩,
⟨(some 27), .idxA 8 8 (.t 26) (.t 20), none⟩,
⟨none, .store 8 (.t 27) (.t 24), none⟩] [0,
0,
2,
6,
14,
0,
32,
96,
224,
1,
513,
2047,
4095] true))))
def rv : List RV := []
theorem c : cK Try.prog Try.f41.ntmps (Try.f41.body.getD .ret) = some s := by kernel_rfl
theorem b : Try.f41.body = some (Try.f41.body.getD .ret) := by kernel_rfl
theorem r : cRV Try.prog Try.f41.results.toList = some rv := by kernel_rfl
theorem ca : Callable Try.prog 41 = true := by kernel_rfl
theorem enter {args : List SV} {F : Hp} {k nk : Nat} {Q : SV → Hp → Prop} (hargs : SV.oks (fun n => decide (n < k)) args = true) (hF : F.ok (fun n => decide (n < k)) = true) (hN : args.length ≤ 28)
    (h : SW Try.prog 28 k s ⟨argE 0 args, F, k⟩ fun e st' => match e with | .normal => Fin k nk rv Q st' | .ret => Fin k nk rv Q st' | _ => False) : SB Try.prog 41 args F k nk Q :=
  SB.of_body Try.func41 b c r ca hargs hF hN h
end stable_Tracker_settle
namespace law12_v
abbrev f : Nat := 42
def s : SCo := (.seq
(.reg [⟨(some 4), .alloc 25 [(.d (.int .u32 0)), (.d (.int .u32 0)), (.d (.int .u32 0)), (.d (.int .u32 0)), (.d (.int .u32 0)), (.d (.int .u32 0)), (.d (.int .u32 0)), (.d (.int .u32 0))], none⟩] (fullB 1) false)
(.seq
(.reg [⟨(some 5), .mv (.t 0), none⟩,
⟨(some 6), .mv (.t 1), none⟩,
⟨(some 7), .bld [(.d (.int .u32 0)), (.d (.int .u32 0)), (.d (.int .u32 0)), (.d (.int .u32 0)), (.d (.int .u32 0)), (.d (.int .u32 0)), (.d (.int .u32 0)), (.d (.int .u32 0))] [(0, 1, (.t 5)), (1, 1, (.t 6))], none⟩,
⟨none, .store 8 (.t 4) (.t 7), none⟩] (fullB 4) false)
.ret))
def rv : List RV := [.cell 4 (some 8)]
theorem c : cK Try.prog Try.f42.ntmps (Try.f42.body.getD .ret) = some s := by kernel_rfl
theorem b : Try.f42.body = some (Try.f42.body.getD .ret) := by kernel_rfl
theorem r : cRV Try.prog Try.f42.results.toList = some rv := by kernel_rfl
theorem ca : Callable Try.prog 42 = true := by kernel_rfl
theorem enter {args : List SV} {F : Hp} {k nk : Nat} {Q : SV → Hp → Prop} (hargs : SV.oks (fun n => decide (n < k)) args = true) (hF : F.ok (fun n => decide (n < k)) = true) (hN : args.length ≤ 8)
    (h : SW Try.prog 8 k s ⟨argE 0 args, F, k⟩ fun e st' => match e with | .normal => Fin k nk rv Q st' | .ret => Fin k nk rv Q st' | _ => False) : SB Try.prog 42 args F k nk Q :=
  SB.of_body Try.func42 b c r ca hargs hF hN h
end law12_v
namespace vector_Meet
abbrev f : Nat := 43
def s : SCo := (.seq
(.reg [⟨(some 2), .alloc 25 [(.d (.int .u32 0)), (.d (.int .u32 0)), (.d (.int .u32 0)), (.d (.int .u32 0)), (.d (.int .u32 0)), (.d (.int .u32 0)), (.d (.int .u32 0)), (.d (.int .u32 0))], none⟩] (fullB 1) false)
(.seq
(.reg [⟨(some 3), .call (.k (.fn (.func 90) [] [])) [(.k (.fn (.func 91) [] []))], none⟩,
⟨(some 4), .mv (.t 0), none⟩,
⟨(some 5), .call (.k (.fn (.func 89) [] [])) [(.t 3), (.t 4)], none⟩,
⟨none, .store 8 (.t 2) (.t 5), none⟩] (fullB 4) false)
.ret))
def rv : List RV := [.cell 2 (some 8)]
theorem c : cK Try.prog Try.f43.ntmps (Try.f43.body.getD .ret) = some s := by kernel_rfl
theorem b : Try.f43.body = some (Try.f43.body.getD .ret) := by kernel_rfl
theorem r : cRV Try.prog Try.f43.results.toList = some rv := by kernel_rfl
theorem ca : Callable Try.prog 43 = true := by kernel_rfl
theorem enter {args : List SV} {F : Hp} {k nk : Nat} {Q : SV → Hp → Prop} (hargs : SV.oks (fun n => decide (n < k)) args = true) (hF : F.ok (fun n => decide (n < k)) = true) (hN : args.length ≤ 6)
    (h : SW Try.prog 6 k s ⟨argE 0 args, F, k⟩ fun e st' => match e with | .normal => Fin k nk rv Q st' | .ret => Fin k nk rv Q st' | _ => False) : SB Try.prog 43 args F k nk Q :=
  SB.of_body Try.func43 b c r ca hargs hF hN h
end vector_Meet
namespace ref03_May
abbrev f : Nat := 44
def s : SCo := (.seq
(.reg [⟨(some 1), .box 37 (.t 0), none⟩,
⟨(some 2), .mv (.k (.d (.bool false))), none⟩] (fullB 2) false)
(.seq
(.reg [⟨(some 3), .fld 0 (.t 1), none⟩,
⟨(some 4), .load none (.t 3), none⟩,
⟨(some 5), .bin .leq (.t 4) (.k (.d (.int .u8 7))), none⟩,
⟨(some 6), .mv (.t 5), none⟩,
⟨(some 7), .fld 1 (.t 1), some (6, true)⟩,
⟨(some 8), .load none (.t 7), some (6, true)⟩,
⟨(some 9), .bin .geq (.t 8) (.k (.d (.int .u32 1))), some (6, true)⟩,
⟨(some 10), .pick (.t 6) (.t 9) (.k (.d (.bool false))), none⟩,
⟨(some 2), .mv (.t 10), none⟩] (fullB 9) false)
.ret))
def rv : List RV := [.tmp 2]
theorem c : cK Try.prog Try.f44.ntmps (Try.f44.body.getD .ret) = some s := by kernel_rfl
theorem b : Try.f44.body = some (Try.f44.body.getD .ret) := by kernel_rfl
theorem r : cRV Try.prog Try.f44.results.toList = some rv := by kernel_rfl
theorem ca : Callable Try.prog 44 = true := by kernel_rfl
theorem enter {args : List SV} {F : Hp} {k nk : Nat} {Q : SV → Hp → Prop} (hargs : SV.oks (fun n => decide (n < k)) args = true) (hF : F.ok (fun n => decide (n < k)) = true) (hN : args.length ≤ 11)
    (h : SW Try.prog 11 k s ⟨argE 0 args, F, k⟩ fun e st' => match e with | .normal => Fin k nk rv Q st' | .ret => Fin k nk rv Q st' | _ => False) : SB Try.prog 44 args F k nk Q :=
  SB.of_body Try.func44 b c r ca hargs hF hN h
end ref03_May
namespace law16_b
end law16_b
namespace law16_g
end law16_g
namespace law16_a
end law16_a
namespace tree_Tree_Above
end tree_Tree_Above
namespace tree_Tree_Why
end tree_Tree_Why
namespace ref10_Find
end ref10_Find
namespace ref10_Compare
end ref10_Compare
namespace slices_DeleteFunc_Lapi_Op_api_Op
end slices_DeleteFunc_Lapi_Op_api_Op
namespace slices_Clone_Lapi_Op_api_Op
end slices_Clone_Lapi_Op_api_Op
namespace tree_New_1
end tree_New_1
namespace tree_Tree_put
end tree_Tree_put
namespace tree_Tree_none
end tree_Tree_none
namespace tree_Tree_up
end tree_Tree_up
namespace ref12_Has
abbrev f : Nat := 59
def s : SCo := (.seq
(.reg [⟨(some 2), .box 69 (.t 0), none⟩,
⟨(some 3), .box 25 (.t 1), none⟩,
⟨(some 4), .alloc 69 [(.d (.int .i64 0)), (.d (.int .u8 0)), (.d (.int .u32 0)), (.d (.int .u32 0)), (.d (.int .u32 0)), (.d (.int .u32 0)), (.d (.int .u32 0)), (.d (.int .u32 0)), (.d (.int .u32 0)), (.d (.int .u32 0)), (.d .nils)], none⟩,
⟨(some 5), .mv (.k (.d (.int .i64 0))), none⟩] (fullB 4) false)
(.seq
(.seq
(.reg [⟨(some 6), .load (some 11) (.t 2), none⟩,
⟨(some 7), .load (some 8) (.t 3), none⟩,
⟨(some 8), .call (.k (.fn (.func 102) [] [])) [(.t 6), (.t 7)], none⟩,
⟨(some 9), .not (.t 8), none⟩] (fullB 4) false)
(.cond (.t 9)
 (.seq
 (.reg [⟨(some 10), .load (some 11) (.t 2), none⟩,
⟨none, .store 11 (.t 4) (.t 10), none⟩,
⟨(some 5), .mv (.k (.d (.int .i64 2))), none⟩] (fullB 3) false)
 .ret)
 .skip))
(.seq
(.seq
 (.reg [⟨(some 11), .load (some 8) (.t 3), none⟩,
⟨(some 12), .fld 2 (.t 2), none⟩,
⟨(some 13), .load (some 8) (.t 12), none⟩,
⟨(some 14), .call (.k (.fn (.func 18) [] [])) [(.t 11), (.t 13)], none⟩,
⟨(some 15), .not (.t 14), none⟩] (fullB 5) false)
 (.cond (.t 15)
 (.seq
 (.reg [⟨(some 16), .load (some 11) (.t 2), none⟩,
⟨none, .store 11 (.t 4) (.t 16), none⟩,
⟨(some 5), .mv (.k (.d (.int .i64 9))), none⟩] (fullB 3) false)
 .ret)
 .skip))
(.seq
 (.reg [⟨(some 17), .load (some 8) (.t 3), none⟩,
⟨(some 18), .fld 2 (.t 2), none⟩,
⟨none, .store 8 (.t 18) (.t 17), none⟩] (fullB 3) false)
 (.seq
 (.reg [⟨(some 19), .load (some 11) (.t 2), none⟩,
⟨none, .store 11 (.t 4) (.t 19), none⟩,
⟨(some 5), .mv (.k (.d (.int .i64 0))), none⟩] (fullB 3) false)
 .ret)))))
def rv : List RV := [.cell 4 (some 11), .tmp 5]
theorem c : cK Try.prog Try.f59.ntmps (Try.f59.body.getD .ret) = some s := by kernel_rfl
theorem b : Try.f59.body = some (Try.f59.body.getD .ret) := by kernel_rfl
theorem r : cRV Try.prog Try.f59.results.toList = some rv := by kernel_rfl
theorem ca : Callable Try.prog 59 = true := by kernel_rfl
theorem enter {args : List SV} {F : Hp} {k nk : Nat} {Q : SV → Hp → Prop} (hargs : SV.oks (fun n => decide (n < k)) args = true) (hF : F.ok (fun n => decide (n < k)) = true) (hN : args.length ≤ 20)
    (h : SW Try.prog 20 k s ⟨argE 0 args, F, k⟩ fun e st' => match e with | .normal => Fin k nk rv Q st' | .ret => Fin k nk rv Q st' | _ => False) : SB Try.prog 59 args F k nk Q :=
  SB.of_body Try.func59 b c r ca hargs hF hN h
end ref12_Has
namespace ref12_Hear
abbrev f : Nat := 60
def s : SCo := (.seq
(.reg [⟨(some 3), .box 69 (.t 0), none⟩,
⟨(some 5), .box 25 (.t 2), none⟩,
⟨(some 6), .alloc 69 [(.d (.int .i64 0)), (.d (.int .u8 0)), (.d (.int .u32 0)), (.d (.int .u32 0)), (.d (.int .u32 0)), (.d (.int .u32 0)), (.d (.int .u32 0)), (.d (.int .u32 0)), (.d (.int .u32 0)), (.d (.int .u32 0)), (.d .nils)], none⟩,
⟨(some 7), .mv (.k (.d (.int .i64 0))), none⟩] (fullB 4) false)
(.seq
(.seq
(.reg [⟨(some 8), .mv (.t 1), none⟩,
⟨(some 9), .conv .i64 (.t 8), none⟩,
⟨(some 10), .fld 0 (.t 3), none⟩,
⟨(some 11), .load none (.t 10), none⟩,
⟨(some 12), .bin .geq (.t 9) (.t 11), none⟩,
⟨(some 13), .mv (.t 12), none⟩,
⟨(some 14), .load (some 11) (.t 3), some (13, false)⟩,
⟨(some 15), .load (some 8) (.t 5), some (13, false)⟩,
⟨(some 16), .call (.k (.fn (.func 102) [] [])) [(.t 14), (.t 15)], some (13, false)⟩,
⟨(some 17), .not (.t 16), some (13, false)⟩,
⟨(some 18), .pick (.t 13) (.k (.d (.bool true))) (.t 17), none⟩] (fullB 11) false)
(.cond (.t 18)
 (.seq
 (.reg [⟨(some 19), .load (some 11) (.t 3), none⟩,
⟨none, .store 11 (.t 6) (.t 19), none⟩,
⟨(some 7), .mv (.k (.d (.int .i64 2))), none⟩] (fullB 3) false)
 .ret)
 .skip))
(.seq
(.seq
 (.reg [⟨(some 20), .mv (.t 1), none⟩,
⟨(some 21), .fld 1 (.t 3), none⟩,
⟨(some 22), .load none (.t 21), none⟩,
⟨(some 23), .bin .eql (.t 20) (.t 22), none⟩] (fullB 4) false)
 (.cond (.t 23)
 (.seq
 (.seq
 (.reg [⟨(some 24), .fld 2 (.t 3), none⟩,
⟨(some 25), .load (some 8) (.t 24), none⟩,
⟨(some 26), .load (some 8) (.t 5), none⟩,
⟨(some 27), .call (.k (.fn (.func 18) [] [])) [(.t 25), (.t 26)], none⟩,
⟨(some 28), .not (.t 27), none⟩] (fullB 5) false)
 (.cond (.t 28)
  (.seq
  (.reg [⟨(some 29), .load (some 11) (.t 3), none⟩,
⟨none, .store 11 (.t 6) (.t 29), none⟩,
⟨(some 7), .mv (.k (.d (.int .i64 9))), none⟩] (fullB 3) false)
  .ret)
  .skip))
 (.seq
 (.reg [⟨(some 30), .load (some 11) (.t 3), none⟩,
⟨none, .store 11 (.t 6) (.t 30), none⟩,
⟨(some 7), .mv (.k (.d (.int .i64 0))), none⟩] (fullB 3) false)
 .ret))
 .skip))
(.seq
 (.reg [⟨(some 31), .bsl 149 9 0 [] [], none⟩,
⟨(some 32), .fld 10 (.t 3), none⟩,
⟨(some 33), .load none (.t 32), none⟩,
⟨(some 34), .app 149 9 36 (.t 31) (.t 33), none⟩,
⟨(some 35), .mv (.t 1), none⟩,
⟨(some 36), .load (some 8) (.t 5), none⟩,
⟨(some 37), .bld [(.d (.int .u8 0)), (.d (.int .u32 0)), (.d (.int .u32 0)), (.d (.int .u32 0)), (.d (.int .u32 0)), (.d (.int .u32 0)), (.d (.int .u32 0)), (.d (.int .u32 0)), (.d (.int .u32 0))] [(0, 1, (.t 35)), (1, 8, (.t 36))], none⟩,
⟨(some 38), .bsl 149 9 1 [(.d (.int .u8 0)), (.d (.int .u32 0)), (.d (.int .u32 0)), (.d (.int .u32 0)), (.d (.int .u32 0)), (.d (.int .u32 0)), (.d (.int .u32 0)), (.d (.int .u32 0)), (.d (.int .u32 0))] [(0, 9, (.t 37))], none⟩,
⟨(some 39), .app 149 9 36 (.t 34) (.t 38), none⟩,
⟨(some 40), .fld 10 (.t 3), none⟩,
⟨none, .store 1 (.t 40) (.t 39), none⟩] [0,
0,
2,
7,
0,
0,
48,
112,
255,
511,
1023] true)
 (.seq
 (.reg [⟨(some 41), .load (some 11) (.t 3), none⟩,
⟨none, .store 11 (.t 6) (.t 41), none⟩,
⟨(some 7), .mv (.k (.d (.int .i64 0))), none⟩] (fullB 3) false)
 .ret)))))
def rv : List RV := [.cell 6 (some 11), .tmp 7]
theorem c : cK Try.prog Try.f60.ntmps (Try.f60.body.getD .ret) = some s := by kernel_rfl
theorem b : Try.f60.body = some (Try.f60.body.getD .ret) := by kernel_rfl
theorem r : cRV Try.prog Try.f60.results.toList = some rv := by kernel_rfl
theorem ca : Callable Try.prog 60 = true := by kernel_rfl
theorem enter {args : List SV} {F : Hp} {k nk : Nat} {Q : SV → Hp → Prop} (hargs : SV.oks (fun n => decide (n < k)) args = true) (hF : F.ok (fun n => decide (n < k)) = true) (hN : args.length ≤ 42)
    (h : SW Try.prog 42 k s ⟨argE 0 args, F, k⟩ fun e st' => match e with | .normal => Fin k nk rv Q st' | .ret => Fin k nk rv Q st' | _ => False) : SB Try.prog 60 args F k nk Q :=
  SB.of_body Try.func60 b c r ca hargs hF hN h
end ref12_Hear
namespace ref12_Counts
abbrev f : Nat := 61
def s : SCo := (.seq
(.reg [⟨(some 2), .box 69 (.t 0), none⟩,
⟨(some 4), .alloc 25 [(.d (.int .u32 0)), (.d (.int .u32 0)), (.d (.int .u32 0)), (.d (.int .u32 0)), (.d (.int .u32 0)), (.d (.int .u32 0)), (.d (.int .u32 0)), (.d (.int .u32 0))], none⟩,
⟨(some 5), .mv (.k (.d (.int .i64 0))), none⟩] (fullB 3) false)
(.seq
(.seq
(.reg [⟨(some 8), .mv (.t 1), none⟩,
⟨(some 9), .conv .i64 (.t 8), none⟩,
⟨(some 10), .fld 0 (.t 2), none⟩,
⟨(some 11), .load none (.t 10), none⟩,
⟨(some 12), .bin .geq (.t 9) (.t 11), none⟩] (fullB 5) false)
(.cond (.t 12)
 (.seq
 (.reg [⟨(some 13), .bld [(.d (.int .u32 0)), (.d (.int .u32 0)), (.d (.int .u32 0)), (.d (.int .u32 0)), (.d (.int .u32 0)), (.d (.int .u32 0)), (.d (.int .u32 0)), (.d (.int .u32 0))] [], none⟩,
⟨none, .store 8 (.t 4) (.t 13), none⟩,
⟨(some 5), .mv (.k (.d (.int .i64 2))), none⟩] (fullB 3) false)
 .ret)
 .skip))
(.seq
(.seq
 (.reg [⟨(some 14), .mv (.t 1), none⟩,
⟨(some 15), .fld 1 (.t 2), none⟩,
⟨(some 16), .load none (.t 15), none⟩,
⟨(some 17), .bin .eql (.t 14) (.t 16), none⟩] (fullB 4) false)
 (.cond (.t 17)
 (.seq
 (.reg [⟨(some 18), .fld 2 (.t 2), none⟩,
⟨(some 19), .load (some 8) (.t 18), none⟩,
⟨none, .store 8 (.t 4) (.t 19), none⟩,
⟨(some 5), .mv (.k (.d (.int .i64 0))), none⟩] (fullB 4) false)
 .ret)
 .skip))
(.seq
 (.reg [⟨(some 6), .mv (.k (.d .nils)), none⟩] (fullB 1) false)
 (.seq
 (.seq
 (.reg [⟨(some 7), .mv (.k (.d (.int .i64 0))), none⟩] (fullB 1) false)
 (.block 0
 (.loop
  (.seq
  (.seq
  (.reg [⟨(some 20), .mv (.t 7), none⟩,
⟨(some 21), .fld 10 (.t 2), none⟩,
⟨(some 22), .load none (.t 21), none⟩,
⟨(some 23), .len (.t 22), none⟩,
⟨(some 24), .bin .lss (.t 20) (.t 23), none⟩] (fullB 5) false)
  (.cond (.t 24)
  .skip
  (.exit 0)))
  (.seq
  (.block 1
  (.seq
   (.reg (⟨(some 27), .fld 10 (.t 2), none⟩ ::
⟨(some 28), .load none (.t 27), none⟩ ::
⟨(some 29), .mv (.t 7), none⟩ ::
⟨(some 30), .idxS 9 (.t 28) (.t 29), none⟩ ::
⟨(some 31), .fld 0 (.t 30), none⟩ ::
⟨(some 32), .load none (.t 31), none⟩ ::
⟨(some 33), .mv (.t 1), none⟩ ::
⟨(some 34), .bin .eql (.t 32) (.t 33), none⟩ ::
⟨(some 35), .mv (.t 34), none⟩ ::
⟨(some 36), .fld 10 (.t 2), some (35, true)⟩ ::
⟨(some 37), .load none (.t 36), some (35, true)⟩ ::
⟨(some 38), .mv (.t 7), some (35, true)⟩ ::
⟨(some 39), .mv (.t 1), some (35, true)⟩ ::
⟨(some 40), .idxS 9 (.t 37) (.t 38), some (35, true)⟩ ::
⟨(some 41), .fld 1 (.t 40), some (35, true)⟩ ::
⟨(some 42), .idxA 8 1 (.t 41) (.t 39), some (35, true)⟩ ::
⟨(some 43), .load none (.t 42), some (35, true)⟩ ::
⟨(some 44), .mv (.t 1), some (35, true)⟩ ::
⟨(some 45), .fld 2 (.t 2), some (35, true)⟩ ::
⟨(some 46), .idxA 8 1 (.t 45) (.t 44), some (35, true)⟩ ::
⟨(some 47), .load none (.t 46), some (35, true)⟩ ::
⟨(some 48), .bin .leq (.t 43) (.t 47), some (35, true)⟩ ::
⟨(some 49), .pick (.t 35) (.t 48) (.k (.d (.bool false))), none⟩ :: []) (0 ::
1 ::
0 ::
7 ::
15 ::
31 ::
0 ::
127 ::
255 ::
511 ::
1023 ::
511 ::
511 ::
4095 ::
12287 ::
32767 ::
65535 ::
511 ::
511 ::
393727 ::
918015 ::
2097151 ::
4194303 :: []) true)
   (.cond (.t 49)
   (.reg [⟨(some 50), .mv (.t 6), none⟩,
⟨(some 51), .fld 10 (.t 2), none⟩,
⟨(some 52), .load none (.t 51), none⟩,
⟨(some 53), .mv (.t 7), none⟩,
⟨(some 54), .idxS 9 (.t 52) (.t 53), none⟩,
⟨(some 55), .fld 1 (.t 54), none⟩,
⟨(some 56), .load (some 8) (.t 55), none⟩,
⟨(some 57), .bsl 25 8 1 [(.d (.int .u32 0)), (.d (.int .u32 0)), (.d (.int .u32 0)), (.d (.int .u32 0)), (.d (.int .u32 0)), (.d (.int .u32 0)), (.d (.int .u32 0)), (.d (.int .u32 0))] [(0, 8, (.t 56))], none⟩,
⟨(some 58), .app 25 8 32 (.t 50) (.t 57), none⟩,
⟨(some 6), .mv (.t 58), none⟩] (fullB 10) false)
   .skip)))
  (.reg [⟨(some 25), .mv (.t 7), none⟩,
⟨(some 26), .bin .add (.t 25) (.k (.d (.int .i64 1))), none⟩,
⟨(some 7), .mv (.t 26), none⟩] (fullB 3) false))))))
 (.seq
 (.reg [⟨(some 59), .mv (.t 6), none⟩,
⟨(some 60), .call (.k (.fn (.func 103) [] [])) [(.t 59)], none⟩,
⟨none, .store 8 (.t 4) (.t 60), none⟩,
⟨(some 5), .mv (.k (.d (.int .i64 0))), none⟩] (fullB 4) false)
 .ret))))))
def rv : List RV := [.cell 4 (some 8), .tmp 5]
theorem c : cK Try.prog Try.f61.ntmps (Try.f61.body.getD .ret) = some s := by kernel_rfl
theorem b : Try.f61.body = some (Try.f61.body.getD .ret) := by kernel_rfl
theorem r : cRV Try.prog Try.f61.results.toList = some rv := by kernel_rfl
theorem ca : Callable Try.prog 61 = true := by kernel_rfl
theorem enter {args : List SV} {F : Hp} {k nk : Nat} {Q : SV → Hp → Prop} (hargs : SV.oks (fun n => decide (n < k)) args = true) (hF : F.ok (fun n => decide (n < k)) = true) (hN : args.length ≤ 61)
    (h : SW Try.prog 61 k s ⟨argE 0 args, F, k⟩ fun e st' => match e with | .normal => Fin k nk rv Q st' | .ret => Fin k nk rv Q st' | _ => False) : SB Try.prog 61 args F k nk Q :=
  SB.of_body Try.func61 b c r ca hargs hF hN h
end ref12_Counts
namespace ref12_Stable
abbrev f : Nat := 62
def s : SCo := (.seq
(.reg [⟨(some 1), .box 69 (.t 0), none⟩,
⟨(some 2), .alloc 25 [(.d (.int .u32 0)), (.d (.int .u32 0)), (.d (.int .u32 0)), (.d (.int .u32 0)), (.d (.int .u32 0)), (.d (.int .u32 0)), (.d (.int .u32 0)), (.d (.int .u32 0))], none⟩] (fullB 2) false)
(.seq
(.reg [⟨(some 3), .mv (.k (.d .nils)), none⟩] (fullB 1) false)
(.seq
(.seq
 (.reg [⟨(some 4), .mv (.k (.d (.int .i64 0))), none⟩] (fullB 1) false)
 (.block 0
 (.loop
 (.seq
 (.seq
  (.reg [⟨(some 7), .mv (.t 4), none⟩,
⟨(some 8), .fld 0 (.t 1), none⟩,
⟨(some 9), .load none (.t 8), none⟩,
⟨(some 10), .bin .lss (.t 7) (.t 9), none⟩] (fullB 4) false)
  (.cond (.t 10)
  .skip
  (.exit 0)))
 (.seq
  (.block 1
  (.seq
  (.reg [⟨(some 14), .load (some 11) (.t 1), none⟩,
⟨(some 15), .mv (.t 4), none⟩,
⟨(some 16), .conv .u8 (.t 15), none⟩,
⟨(some 17), .call (.k (.fn (.func 61) [] [])) [(.t 14), (.t 16)], none⟩,
⟨(some 13), .mv (.t 17), none⟩,
⟨(some 18), .ext 0 (.t 13), none⟩,
⟨(some 19), .ext 1 (.t 13), none⟩,
⟨(some 5), .alloc 25 [(.d (.int .u32 0)), (.d (.int .u32 0)), (.d (.int .u32 0)), (.d (.int .u32 0)), (.d (.int .u32 0)), (.d (.int .u32 0)), (.d (.int .u32 0)), (.d (.int .u32 0))], none⟩,
⟨none, .store 8 (.t 5) (.t 18), none⟩,
⟨(some 6), .mv (.t 19), none⟩] (fullB 10) false)
  (.reg [⟨(some 20), .mv (.t 3), none⟩,
⟨(some 21), .load (some 8) (.t 5), none⟩,
⟨(some 22), .bsl 25 8 1 [(.d (.int .u32 0)), (.d (.int .u32 0)), (.d (.int .u32 0)), (.d (.int .u32 0)), (.d (.int .u32 0)), (.d (.int .u32 0)), (.d (.int .u32 0)), (.d (.int .u32 0))] [(0, 8, (.t 21))], none⟩,
⟨(some 23), .app 25 8 32 (.t 20) (.t 22), none⟩,
⟨(some 3), .mv (.t 23), none⟩] (fullB 5) false)))
  (.reg [⟨(some 11), .mv (.t 4), none⟩,
⟨(some 12), .bin .add (.t 11) (.k (.d (.int .i64 1))), none⟩,
⟨(some 4), .mv (.t 12), none⟩] (fullB 3) false))))))
(.seq
 (.reg [⟨(some 24), .mv (.t 3), none⟩,
⟨(some 25), .call (.k (.fn (.func 104) [] [])) [(.t 24)], none⟩,
⟨none, .store 8 (.t 2) (.t 25), none⟩] (fullB 3) false)
 .ret))))
def rv : List RV := [.cell 2 (some 8)]
theorem c : cK Try.prog Try.f62.ntmps (Try.f62.body.getD .ret) = some s := by kernel_rfl
theorem b : Try.f62.body = some (Try.f62.body.getD .ret) := by kernel_rfl
theorem r : cRV Try.prog Try.f62.results.toList = some rv := by kernel_rfl
theorem ca : Callable Try.prog 62 = true := by kernel_rfl
theorem enter {args : List SV} {F : Hp} {k nk : Nat} {Q : SV → Hp → Prop} (hargs : SV.oks (fun n => decide (n < k)) args = true) (hF : F.ok (fun n => decide (n < k)) = true) (hN : args.length ≤ 26)
    (h : SW Try.prog 26 k s ⟨argE 0 args, F, k⟩ fun e st' => match e with | .normal => Fin k nk rv Q st' | .ret => Fin k nk rv Q st' | _ => False) : SB Try.prog 62 args F k nk Q :=
  SB.of_body Try.func62 b c r ca hargs hF hN h
end ref12_Stable
namespace ref12_Waits
abbrev f : Nat := 63
def s : SCo := (.seq
(.reg [⟨(some 1), .box 69 (.t 0), none⟩,
⟨(some 2), .mv (.k (.d (.int .i64 0))), none⟩] (fullB 2) false)
(.seq
(.reg [⟨(some 3), .mv (.k (.d .nils)), none⟩] (fullB 1) false)
(.seq
(.seq
 (.reg [⟨(some 4), .mv (.k (.d (.int .i64 0))), none⟩] (fullB 1) false)
 (.block 0
 (.loop
 (.seq
 (.seq
  (.reg [⟨(some 10), .mv (.t 4), none⟩,
⟨(some 11), .fld 10 (.t 1), none⟩,
⟨(some 12), .load none (.t 11), none⟩,
⟨(some 13), .len (.t 12), none⟩,
⟨(some 14), .bin .lss (.t 10) (.t 13), none⟩] (fullB 5) false)
  (.cond (.t 14)
  .skip
  (.exit 0)))
 (.seq
  (.block 1
  (.seq
  (.reg [⟨(some 17), .fld 10 (.t 1), none⟩,
⟨(some 18), .load none (.t 17), none⟩,
⟨(some 19), .mv (.t 4), none⟩,
⟨(some 20), .idxS 9 (.t 18) (.t 19), none⟩,
⟨(some 21), .load (some 9) (.t 20), none⟩,
⟨(some 5), .alloc 149 [(.d (.int .u8 0)), (.d (.int .u32 0)), (.d (.int .u32 0)), (.d (.int .u32 0)), (.d (.int .u32 0)), (.d (.int .u32 0)), (.d (.int .u32 0)), (.d (.int .u32 0)), (.d (.int .u32 0))], none⟩,
⟨none, .store 9 (.t 5) (.t 21), none⟩] (fullB 7) false)
  (.seq
  (.reg [⟨(some 23), .load (some 11) (.t 1), none⟩,
⟨(some 24), .fld 0 (.t 5), none⟩,
⟨(some 25), .load none (.t 24), none⟩,
⟨(some 26), .call (.k (.fn (.func 61) [] [])) [(.t 23), (.t 25)], none⟩,
⟨(some 22), .mv (.t 26), none⟩,
⟨(some 27), .ext 0 (.t 22), none⟩,
⟨(some 28), .ext 1 (.t 22), none⟩,
⟨(some 6), .alloc 25 [(.d (.int .u32 0)), (.d (.int .u32 0)), (.d (.int .u32 0)), (.d (.int .u32 0)), (.d (.int .u32 0)), (.d (.int .u32 0)), (.d (.int .u32 0)), (.d (.int .u32 0))], none⟩,
⟨none, .store 8 (.t 6) (.t 27), none⟩,
⟨(some 7), .mv (.t 28), none⟩] (fullB 10) false)
  (.seq
   (.reg [⟨(some 8), .mv (.k (.d (.bool false))), none⟩] (fullB 1) false)
   (.seq
   (.seq
   (.reg [⟨(some 9), .mv (.k (.d (.int .i64 0))), none⟩] (fullB 1) false)
   (.block 2
   (.loop
    (.seq
    (.seq
    (.reg [⟨(some 29), .mv (.t 9), none⟩,
⟨(some 30), .mv (.t 3), none⟩,
⟨(some 31), .len (.t 30), none⟩,
⟨(some 32), .bin .lss (.t 29) (.t 31), none⟩] (fullB 4) false)
    (.cond (.t 32)
    .skip
    (.exit 2)))
    (.seq
    (.block 3
    (.reg [⟨(some 35), .mv (.t 8), none⟩,
⟨(some 36), .mv (.t 35), none⟩,
⟨(some 37), .mv (.t 3), some (36, false)⟩,
⟨(some 38), .mv (.t 9), some (36, false)⟩,
⟨(some 39), .idxS 9 (.t 37) (.t 38), some (36, false)⟩,
⟨(some 40), .load (some 9) (.t 39), some (36, false)⟩,
⟨(some 41), .load (some 9) (.t 5), some (36, false)⟩,
⟨(some 42), .eqv false [true, true, true, true, true, true, true, true, true] (.t 40) (.t 41), some (36, false)⟩,
⟨(some 43), .pick (.t 36) (.k (.d (.bool true))) (.t 42), none⟩,
⟨(some 8), .mv (.t 43), none⟩] [0,
1,
3,
3,
15,
31,
3,
127,
255,
511] true))
    (.reg [⟨(some 33), .mv (.t 9), none⟩,
⟨(some 34), .bin .add (.t 33) (.k (.d (.int .i64 1))), none⟩,
⟨(some 9), .mv (.t 34), none⟩] (fullB 3) false))))))
   (.seq
   (.reg (⟨(some 44), .mv (.t 8), none⟩ ::
⟨(some 45), .not (.t 44), none⟩ ::
⟨(some 46), .mv (.t 45), none⟩ ::
⟨(some 47), .fld 0 (.t 5), some (46, true)⟩ ::
⟨(some 48), .load none (.t 47), some (46, true)⟩ ::
⟨(some 49), .fld 1 (.t 5), some (46, true)⟩ ::
⟨(some 50), .idxA 8 1 (.t 49) (.t 48), some (46, true)⟩ ::
⟨(some 51), .load none (.t 50), some (46, true)⟩ ::
⟨(some 52), .fld 0 (.t 5), some (46, true)⟩ ::
⟨(some 53), .load none (.t 52), some (46, true)⟩ ::
⟨(some 54), .fld 2 (.t 1), some (46, true)⟩ ::
⟨(some 55), .idxA 8 1 (.t 54) (.t 53), some (46, true)⟩ ::
⟨(some 56), .load none (.t 55), some (46, true)⟩ ::
⟨(some 57), .bin .gtr (.t 51) (.t 56), some (46, true)⟩ ::
⟨(some 58), .pick (.t 46) (.t 57) (.k (.d (.bool false))), none⟩ ::
⟨(some 59), .mv (.t 58), none⟩ ::
⟨(some 60), .load (some 8) (.t 6), some (59, true)⟩ ::
⟨(some 61), .fld 1 (.t 5), some (59, true)⟩ ::
⟨(some 62), .load (some 8) (.t 61), some (59, true)⟩ ::
⟨(some 63), .call (.k (.fn (.func 18) [] [])) [(.t 60), (.t 62)], some (59, true)⟩ ::
⟨(some 64), .not (.t 63), some (59, true)⟩ ::
⟨(some 65), .pick (.t 59) (.t 64) (.k (.d (.bool false))), none⟩ :: []) (0 ::
1 ::
3 ::
7 ::
15 ::
7 ::
63 ::
127 ::
7 ::
263 ::
7 ::
1799 ::
3847 ::
8191 ::
16383 ::
32767 ::
65535 ::
65535 ::
196607 ::
524287 ::
1048575 ::
2097151 :: []) true)
   (.cond (.t 65)
   (.reg [⟨(some 66), .mv (.t 3), none⟩,
⟨(some 67), .load (some 9) (.t 5), none⟩,
⟨(some 68), .bsl 149 9 1 [(.d (.int .u8 0)), (.d (.int .u32 0)), (.d (.int .u32 0)), (.d (.int .u32 0)), (.d (.int .u32 0)), (.d (.int .u32 0)), (.d (.int .u32 0)), (.d (.int .u32 0)), (.d (.int .u32 0))] [(0, 9, (.t 67))], none⟩,
⟨(some 69), .app 149 9 36 (.t 66) (.t 68), none⟩,
⟨(some 3), .mv (.t 69), none⟩] (fullB 5) false)
   .skip)))))))
  (.reg [⟨(some 15), .mv (.t 4), none⟩,
⟨(some 16), .bin .add (.t 15) (.k (.d (.int .i64 1))), none⟩,
⟨(some 4), .mv (.t 16), none⟩] (fullB 3) false))))))
(.seq
 (.reg [⟨(some 70), .mv (.t 3), none⟩,
⟨(some 71), .len (.t 70), none⟩,
⟨(some 2), .mv (.t 71), none⟩] (fullB 3) false)
 .ret))))
def rv : List RV := [.tmp 2]
theorem c : cK Try.prog Try.f63.ntmps (Try.f63.body.getD .ret) = some s := by kernel_rfl
theorem b : Try.f63.body = some (Try.f63.body.getD .ret) := by kernel_rfl
theorem r : cRV Try.prog Try.f63.results.toList = some rv := by kernel_rfl
theorem ca : Callable Try.prog 63 = true := by kernel_rfl
theorem enter {args : List SV} {F : Hp} {k nk : Nat} {Q : SV → Hp → Prop} (hargs : SV.oks (fun n => decide (n < k)) args = true) (hF : F.ok (fun n => decide (n < k)) = true) (hN : args.length ≤ 72)
    (h : SW Try.prog 72 k s ⟨argE 0 args, F, k⟩ fun e st' => match e with | .normal => Fin k nk rv Q st' | .ret => Fin k nk rv Q st' | _ => False) : SB Try.prog 63 args F k nk Q :=
  SB.of_body Try.func63 b c r ca hargs hF hN h
end ref12_Waits
namespace ref05_zero
end ref05_zero
namespace ref05_Has
end ref05_Has
namespace ref05_Covers
end ref05_Covers
namespace ref05_in
end ref05_in
namespace ref05_lines
end ref05_lines
namespace ref10_there
end ref10_there
namespace ref10_Before
end ref10_Before
namespace vector_Merge
abbrev f : Nat := 87
def s : SCo := (.seq
(.reg [⟨(some 2), .alloc 25 [(.d (.int .u32 0)), (.d (.int .u32 0)), (.d (.int .u32 0)), (.d (.int .u32 0)), (.d (.int .u32 0)), (.d (.int .u32 0)), (.d (.int .u32 0)), (.d (.int .u32 0))], none⟩] (fullB 1) false)
(.seq
(.reg [⟨(some 3), .call (.k (.fn (.func 90) [] [])) [(.k (.fn (.func 111) [] []))], none⟩,
⟨(some 4), .mv (.t 0), none⟩,
⟨(some 5), .call (.k (.fn (.func 89) [] [])) [(.t 3), (.t 4)], none⟩,
⟨none, .store 8 (.t 2) (.t 5), none⟩] (fullB 4) false)
.ret))
def rv : List RV := [.cell 2 (some 8)]
theorem c : cK Try.prog Try.f87.ntmps (Try.f87.body.getD .ret) = some s := by kernel_rfl
theorem b : Try.f87.body = some (Try.f87.body.getD .ret) := by kernel_rfl
theorem r : cRV Try.prog Try.f87.results.toList = some rv := by kernel_rfl
theorem ca : Callable Try.prog 87 = true := by kernel_rfl
theorem enter {args : List SV} {F : Hp} {k nk : Nat} {Q : SV → Hp → Prop} (hargs : SV.oks (fun n => decide (n < k)) args = true) (hF : F.ok (fun n => decide (n < k)) = true) (hN : args.length ≤ 6)
    (h : SW Try.prog 6 k s ⟨argE 0 args, F, k⟩ fun e st' => match e with | .normal => Fin k nk rv Q st' | .ret => Fin k nk rv Q st' | _ => False) : SB Try.prog 87 args F k nk Q :=
  SB.of_body Try.func87 b c r ca hargs hF hN h
end vector_Merge
namespace stable_Tracker_settle_1
abbrev f : Nat := 88
def s : SCo := (.seq
(.reg [⟨(some 3), .mv (.k (.d (.bool false))), none⟩] (fullB 1) false)
(.seq
(.reg [⟨(some 4), .mv (.k (.d (.bool false))), none⟩] (fullB 1) false)
(.seq
(.seq
 (.reg [⟨(some 6), .load none (.t 1), none⟩,
⟨(some 7), .mv (.t 0), none⟩,
⟨(some 8), .nilc (.t 6), none⟩,
⟨(some 9), .fld 74 (.t 8), none⟩,
⟨(some 10), .idxA 8 1 (.t 9) (.t 7), none⟩,
⟨(some 11), .load none (.t 10), none⟩,
⟨(some 12), .mrange (.t 11), none⟩] (fullB 7) false)
 (.block 0
 (.loop
 (.seq
 (.reg [⟨(some 13), .mnext (.t 12), none⟩,
⟨(some 14), .ext 0 (.t 13), none⟩] (fullB 2) false)
 (.seq
  (.cond (.t 14)
  .skip
  (.exit 0))
  (.block 1
  (.seq
  (.reg [⟨(some 15), .mentry (.t 12), none⟩,
⟨(some 16), .ext 0 (.t 15), none⟩,
⟨(some 5), .alloc 25 [(.d (.int .u32 0)), (.d (.int .u32 0)), (.d (.int .u32 0)), (.d (.int .u32 0)), (.d (.int .u32 0)), (.d (.int .u32 0)), (.d (.int .u32 0)), (.d (.int .u32 0))], none⟩,
⟨none, .store 8 (.t 5) (.t 16), none⟩] (fullB 4) false)
  (.seq
  (.block 2
   (.seq
   (.reg [⟨(some 18), .mv (.t 0), none⟩,
⟨(some 19), .idxA 8 1 (.t 5) (.t 18), none⟩,
⟨(some 20), .load none (.t 19), none⟩,
⟨(some 21), .load none (.t 1), none⟩,
⟨(some 22), .mv (.t 0), none⟩,
⟨(some 23), .nilc (.t 21), none⟩,
⟨(some 24), .fld 2 (.t 23), none⟩,
⟨(some 25), .idxA 8 1 (.t 24) (.t 22), none⟩,
⟨(some 26), .load none (.t 25), none⟩,
⟨(some 27), .bin .leq (.t 20) (.t 26), none⟩,
⟨(some 17), .mv (.t 27), none⟩] [0,
1,
3,
0,
0,
8,
40,
120,
248,
511,
1023] true)
   (.cond (.t 17)
   (.reg [⟨(some 28), .load none (.t 1), none⟩,
⟨(some 29), .mv (.t 0), none⟩,
⟨(some 30), .load none (.t 1), none⟩,
⟨(some 31), .mv (.t 0), none⟩,
⟨(some 32), .nilc (.t 30), none⟩,
⟨(some 33), .fld 10 (.t 32), none⟩,
⟨(some 34), .idxA 8 8 (.t 33) (.t 31), none⟩,
⟨(some 35), .load (some 8) (.t 34), none⟩,
⟨(some 36), .load (some 8) (.t 5), none⟩,
⟨(some 37), .bsl 25 8 2 [(.d (.int .u32 0)), (.d (.int .u32 0)), (.d (.int .u32 0)), (.d (.int .u32 0)), (.d (.int .u32 0)), (.d (.int .u32 0)), (.d (.int .u32 0)), (.d (.int .u32 0)), (.d (.int .u32 0)), (.d (.int .u32 0)), (.d (.int .u32 0)), (.d (.int .u32 0)), (.d (.int .u32 0)), (.d (.int .u32 0)), (.d (.int .u32 0)), (.d (.int .u32 0))] [(0, 8, (.t 35)), (8, 8, (.t 36))], none⟩,
⟨(some 38), .call (.k (.fn (.func 87) [] [])) [(.t 37)], none⟩,
⟨(some 39), .nilc (.t 28), none⟩,
⟨(some 40), .fld 10 (.t 39), none⟩,
⟨(some 41), .idxA 8 8 (.t 40) (.t 29), none⟩,
⟨none, .store 8 (.t 41) (.t 38), none⟩] [0,
0,
0,
0,
4,
20,
60,
124,
0,
508,
1020,
1,
2049,
8191,
16383] true)
   (.seq
   (.reg [⟨(some 43), .load none (.t 1), none⟩,
⟨(some 44), .mv (.t 0), none⟩,
⟨(some 45), .nilc (.t 43), none⟩,
⟨(some 46), .fld 10 (.t 45), none⟩,
⟨(some 47), .idxA 8 8 (.t 46) (.t 44), none⟩,
⟨(some 48), .load (some 8) (.t 47), none⟩,
⟨(some 49), .load (some 8) (.t 5), none⟩,
⟨(some 50), .call (.k (.fn (.func 40) [] [])) [(.t 48), (.t 49)], none⟩,
⟨(some 51), .not (.t 50), none⟩,
⟨(some 42), .mv (.t 51), none⟩] [0,
0,
1,
5,
15,
31,
0,
127,
255,
511] true)
   (.cond (.t 42)
    (.exit 1)
    .skip)))))
  (.seq
   (.reg [⟨(some 52), .load none (.t 1), none⟩,
⟨(some 53), .mv (.t 0), none⟩,
⟨(some 54), .nilc (.t 52), none⟩,
⟨(some 55), .fld 74 (.t 54), none⟩,
⟨(some 56), .idxA 8 1 (.t 55) (.t 53), none⟩,
⟨(some 57), .load none (.t 56), none⟩,
⟨(some 58), .load (some 8) (.t 5), none⟩,
⟨none, .mdel [true, true, true, true, true, true, true, true] true (.t 57) (.t 58), none⟩] [0,
0,
1,
5,
15,
31,
0,
127] true)
   (.reg [⟨(some 4), .mv (.k (.d (.bool true))), none⟩] (fullB 1) false))))))))))
(.seq
 (.reg [⟨(some 59), .mv (.t 4), none⟩,
⟨(some 3), .mv (.t 59), none⟩] (fullB 2) false)
 .ret))))
def rv : List RV := [.tmp 3]
theorem c : cK Try.prog Try.f88.ntmps (Try.f88.body.getD .ret) = some s := by kernel_rfl
theorem b : Try.f88.body = some (Try.f88.body.getD .ret) := by kernel_rfl
theorem r : cRV Try.prog Try.f88.results.toList = some rv := by kernel_rfl
theorem ca : Callable Try.prog 88 = true := by kernel_rfl
theorem enter {args : List SV} {F : Hp} {k nk : Nat} {Q : SV → Hp → Prop} (hargs : SV.oks (fun n => decide (n < k)) args = true) (hF : F.ok (fun n => decide (n < k)) = true) (hN : args.length ≤ 60)
    (h : SW Try.prog 60 k s ⟨argE 0 args, F, k⟩ fun e st' => match e with | .normal => Fin k nk rv Q st' | .ret => Fin k nk rv Q st' | _ => False) : SB Try.prog 88 args F k nk Q :=
  SB.of_body Try.func88 b c r ca hargs hF hN h
end stable_Tracker_settle_1
namespace vector_all_api_Vector
abbrev f : Nat := 89
def s : SCo := (.seq
(.reg [⟨(some 4), .alloc 25 [(.d (.int .u32 0)), (.d (.int .u32 0)), (.d (.int .u32 0)), (.d (.int .u32 0)), (.d (.int .u32 0)), (.d (.int .u32 0)), (.d (.int .u32 0)), (.d (.int .u32 0))], none⟩] (fullB 1) false)
(.seq
(.seq
(.reg [⟨(some 7), .mv (.t 1), none⟩,
⟨(some 8), .len (.t 7), none⟩,
⟨(some 9), .mv (.k (.d (.int .i64 0))), none⟩] (fullB 3) false)
(.block 0
 (.loop
 (.seq
 (.reg [⟨(some 10), .bin .lss (.t 9) (.t 8), none⟩] (fullB 1) false)
 (.seq
 (.cond (.t 10)
  .skip
  (.exit 0))
 (.seq
  (.block 1
  (.seq
  (.reg [⟨(some 11), .mv (.t 9), none⟩,
⟨(some 12), .idxS 8 (.t 7) (.t 9), none⟩,
⟨(some 13), .load (some 8) (.t 12), none⟩,
⟨(some 6), .alloc 25 [(.d (.int .u32 0)), (.d (.int .u32 0)), (.d (.int .u32 0)), (.d (.int .u32 0)), (.d (.int .u32 0)), (.d (.int .u32 0)), (.d (.int .u32 0)), (.d (.int .u32 0))], none⟩,
⟨(some 5), .mv (.t 11), none⟩,
⟨none, .store 8 (.t 6) (.t 13), none⟩] (fullB 6) false)
  (.seq
  (.reg [⟨(some 14), .mv (.t 0), none⟩,
⟨(some 15), .load (some 8) (.t 4), none⟩,
⟨(some 16), .load (some 8) (.t 6), none⟩,
⟨(some 17), .call (.t 14) [(.t 15), (.t 16)], none⟩,
⟨none, .store 8 (.t 4) (.t 17), none⟩] (fullB 5) false)
  (.seq
   (.reg [⟨(some 18), .mv (.t 5), none⟩,
⟨(some 19), .bin .eql (.t 18) (.k (.d (.int .i64 0))), none⟩] (fullB 2) false)
   (.cond (.t 19)
   (.reg [⟨(some 20), .load (some 8) (.t 6), none⟩,
⟨none, .store 8 (.t 4) (.t 20), none⟩] (fullB 2) false)
   .skip)))))
  (.reg [⟨(some 21), .bin .add (.t 9) (.k (.d (.int .i64 1))), none⟩,
⟨(some 9), .mv (.t 21), none⟩] (fullB 2) false)))))))
(.seq
(.reg [⟨(some 22), .load (some 8) (.t 4), none⟩,
⟨none, .store 8 (.t 4) (.t 22), none⟩] (fullB 2) false)
.ret)))
def rv : List RV := [.cell 4 (some 8)]
theorem c : cK Try.prog Try.f89.ntmps (Try.f89.body.getD .ret) = some s := by kernel_rfl
theorem b : Try.f89.body = some (Try.f89.body.getD .ret) := by kernel_rfl
theorem r : cRV Try.prog Try.f89.results.toList = some rv := by kernel_rfl
theorem ca : Callable Try.prog 89 = true := by kernel_rfl
theorem enter {args : List SV} {F : Hp} {k nk : Nat} {Q : SV → Hp → Prop} (hargs : SV.oks (fun n => decide (n < k)) args = true) (hF : F.ok (fun n => decide (n < k)) = true) (hN : args.length ≤ 23)
    (h : SW Try.prog 23 k s ⟨argE 0 args, F, k⟩ fun e st' => match e with | .normal => Fin k nk rv Q st' | .ret => Fin k nk rv Q st' | _ => False) : SB Try.prog 89 args F k nk Q :=
  SB.of_body Try.func89 b c r ca hargs hF hN h
end vector_all_api_Vector
namespace vector_each
abbrev f : Nat := 90
def s : SCo := (.seq
(.reg [⟨(some 1), .box 139 (.t 0), none⟩,
⟨(some 2), .mv (.k (.d .nilf)), none⟩] (fullB 2) false)
(.seq
(.reg [⟨(some 3), .mkf (.func 112) [] [(.t 1)], none⟩,
⟨(some 2), .mv (.t 3), none⟩] (fullB 2) false)
.ret))
def rv : List RV := [.tmp 2]
theorem c : cK Try.prog Try.f90.ntmps (Try.f90.body.getD .ret) = some s := by kernel_rfl
theorem b : Try.f90.body = some (Try.f90.body.getD .ret) := by kernel_rfl
theorem r : cRV Try.prog Try.f90.results.toList = some rv := by kernel_rfl
theorem ca : Callable Try.prog 90 = true := by kernel_rfl
theorem enter {args : List SV} {F : Hp} {k nk : Nat} {Q : SV → Hp → Prop} (hargs : SV.oks (fun n => decide (n < k)) args = true) (hF : F.ok (fun n => decide (n < k)) = true) (hN : args.length ≤ 4)
    (h : SW Try.prog 4 k s ⟨argE 0 args, F, k⟩ fun e st' => match e with | .normal => Fin k nk rv Q st' | .ret => Fin k nk rv Q st' | _ => False) : SB Try.prog 90 args F k nk Q :=
  SB.of_body Try.func90 b c r ca hargs hF hN h
end vector_each
namespace vector_Meet_1
abbrev f : Nat := 91
def s : SCo := (.seq
(.reg [⟨(some 4), .mv (.k (.d (.int .u32 0))), none⟩] (fullB 1) false)
(.seq
(.reg [⟨(some 5), .mv (.t 0), none⟩,
⟨(some 6), .mv (.t 1), none⟩,
⟨(some 7), .mn (.t 5) (.t 6), none⟩,
⟨(some 4), .mv (.t 7), none⟩] (fullB 4) false)
.ret))
def rv : List RV := [.tmp 4]
theorem c : cK Try.prog Try.f91.ntmps (Try.f91.body.getD .ret) = some s := by kernel_rfl
theorem b : Try.f91.body = some (Try.f91.body.getD .ret) := by kernel_rfl
theorem r : cRV Try.prog Try.f91.results.toList = some rv := by kernel_rfl
theorem ca : Callable Try.prog 91 = true := by kernel_rfl
theorem enter {args : List SV} {F : Hp} {k nk : Nat} {Q : SV → Hp → Prop} (hargs : SV.oks (fun n => decide (n < k)) args = true) (hF : F.ok (fun n => decide (n < k)) = true) (hN : args.length ≤ 8)
    (h : SW Try.prog 8 k s ⟨argE 0 args, F, k⟩ fun e st' => match e with | .normal => Fin k nk rv Q st' | .ret => Fin k nk rv Q st' | _ => False) : SB Try.prog 91 args F k nk Q :=
  SB.of_body Try.func91 b c r ca hargs hF hN h
end vector_Meet_1
namespace tree_Tree_Why_1
end tree_Tree_Why_1
namespace tree_Tree_Why_2
end tree_Tree_Why_2
namespace order_Before
end order_Before
namespace tree_Tree_Why_3
end tree_Tree_Why_3
namespace tree_Tree_Why_4
end tree_Tree_Why_4
namespace tree_Tree_Why_5
end tree_Tree_Why_5
namespace ref03_Compare
end ref03_Compare
namespace slices_IndexFunc_Lapi_Op_api_Op
end slices_IndexFunc_Lapi_Op_api_Op
namespace tree_Tree_up_1
end tree_Tree_up_1
namespace ref12_May
abbrev f : Nat := 102
def s : SCo := (.seq
(.reg [⟨(some 2), .box 69 (.t 0), none⟩,
⟨(some 3), .box 25 (.t 1), none⟩,
⟨(some 4), .mv (.k (.d (.bool false))), none⟩] (fullB 3) false)
(.seq
(.seq
(.reg [⟨(some 6), .fld 0 (.t 2), none⟩,
⟨(some 7), .load none (.t 6), none⟩,
⟨(some 5), .mv (.t 7), none⟩] (fullB 3) false)
(.block 0
 (.loop
 (.seq
 (.seq
 (.reg [⟨(some 8), .mv (.t 5), none⟩,
⟨(some 9), .bin .lss (.t 8) (.k (.d (.int .i64 8))), none⟩] (fullB 2) false)
 (.cond (.t 9)
  .skip
  (.exit 0)))
 (.seq
 (.block 1
  (.seq
  (.reg [⟨(some 12), .mv (.t 5), none⟩,
⟨(some 13), .idxA 8 1 (.t 3) (.t 12), none⟩,
⟨(some 14), .load none (.t 13), none⟩,
⟨(some 15), .bin .neq (.t 14) (.k (.d (.int .u32 0))), none⟩] (fullB 4) false)
  (.cond (.t 15)
  (.seq
  (.reg [⟨(some 4), .mv (.k (.d (.bool false))), none⟩] (fullB 1) false)
  .ret)
  .skip)))
 (.reg [⟨(some 10), .mv (.t 5), none⟩,
⟨(some 11), .bin .add (.t 10) (.k (.d (.int .i64 1))), none⟩,
⟨(some 5), .mv (.t 11), none⟩] (fullB 3) false))))))
(.seq
(.reg [⟨(some 4), .mv (.k (.d (.bool true))), none⟩] (fullB 1) false)
.ret)))
def rv : List RV := [.tmp 4]
theorem c : cK Try.prog Try.f102.ntmps (Try.f102.body.getD .ret) = some s := by kernel_rfl
theorem b : Try.f102.body = some (Try.f102.body.getD .ret) := by kernel_rfl
theorem r : cRV Try.prog Try.f102.results.toList = some rv := by kernel_rfl
theorem ca : Callable Try.prog 102 = true := by kernel_rfl
theorem enter {args : List SV} {F : Hp} {k nk : Nat} {Q : SV → Hp → Prop} (hargs : SV.oks (fun n => decide (n < k)) args = true) (hF : F.ok (fun n => decide (n < k)) = true) (hN : args.length ≤ 16)
    (h : SW Try.prog 16 k s ⟨argE 0 args, F, k⟩ fun e st' => match e with | .normal => Fin k nk rv Q st' | .ret => Fin k nk rv Q st' | _ => False) : SB Try.prog 102 args F k nk Q :=
  SB.of_body Try.func102 b c r ca hargs hF hN h
end ref12_May
namespace ref04_Merge
abbrev f : Nat := 103
def s : SCo := (.seq
(.reg [⟨(some 2), .alloc 25 [(.d (.int .u32 0)), (.d (.int .u32 0)), (.d (.int .u32 0)), (.d (.int .u32 0)), (.d (.int .u32 0)), (.d (.int .u32 0)), (.d (.int .u32 0)), (.d (.int .u32 0))], none⟩] (fullB 1) false)
(.seq
(.reg [⟨(some 3), .alloc 25 [(.d (.int .u32 0)), (.d (.int .u32 0)), (.d (.int .u32 0)), (.d (.int .u32 0)), (.d (.int .u32 0)), (.d (.int .u32 0)), (.d (.int .u32 0)), (.d (.int .u32 0))], none⟩] (fullB 1) false)
(.seq
(.seq
 (.reg [⟨(some 4), .mv (.k (.d (.int .i64 0))), none⟩] (fullB 1) false)
 (.block 0
 (.loop
 (.seq
 (.seq
  (.reg [⟨(some 6), .mv (.t 4), none⟩,
⟨(some 7), .mv (.t 0), none⟩,
⟨(some 8), .len (.t 7), none⟩,
⟨(some 9), .bin .lss (.t 6) (.t 8), none⟩] (fullB 4) false)
  (.cond (.t 9)
  .skip
  (.exit 0)))
 (.seq
  (.block 1
  (.seq
  (.reg [⟨(some 5), .mv (.k (.d (.int .i64 0))), none⟩] (fullB 1) false)
  (.block 2
  (.loop
   (.seq
   (.seq
   (.reg [⟨(some 12), .mv (.t 5), none⟩,
⟨(some 13), .bin .lss (.t 12) (.k (.d (.int .i64 8))), none⟩] (fullB 2) false)
   (.cond (.t 13)
   .skip
   (.exit 2)))
   (.seq
   (.block 3
   (.reg [⟨(some 16), .mv (.t 5), none⟩,
⟨(some 17), .mv (.t 5), none⟩,
⟨(some 18), .idxA 8 1 (.t 3) (.t 17), none⟩,
⟨(some 19), .load none (.t 18), none⟩,
⟨(some 20), .mv (.t 0), none⟩,
⟨(some 21), .mv (.t 4), none⟩,
⟨(some 22), .mv (.t 5), none⟩,
⟨(some 23), .idxS 8 (.t 20) (.t 21), none⟩,
⟨(some 24), .idxA 8 1 (.t 23) (.t 22), none⟩,
⟨(some 25), .load none (.t 24), none⟩,
⟨(some 26), .mx (.t 19) (.t 25), none⟩,
⟨(some 27), .idxA 8 1 (.t 3) (.t 16), none⟩,
⟨none, .store 1 (.t 27) (.t 26), none⟩] [0,
0,
2,
6,
0,
0,
0,
48,
240,
496,
1022,
2047,
4095] true))
   (.reg [⟨(some 14), .mv (.t 5), none⟩,
⟨(some 15), .bin .add (.t 14) (.k (.d (.int .i64 1))), none⟩,
⟨(some 5), .mv (.t 15), none⟩] (fullB 3) false)))))))
  (.reg [⟨(some 10), .mv (.t 4), none⟩,
⟨(some 11), .bin .add (.t 10) (.k (.d (.int .i64 1))), none⟩,
⟨(some 4), .mv (.t 11), none⟩] (fullB 3) false))))))
(.seq
 (.reg [⟨(some 28), .load (some 8) (.t 3), none⟩,
⟨none, .store 8 (.t 2) (.t 28), none⟩] (fullB 2) false)
 .ret))))
def rv : List RV := [.cell 2 (some 8)]
theorem c : cK Try.prog Try.f103.ntmps (Try.f103.body.getD .ret) = some s := by kernel_rfl
theorem b : Try.f103.body = some (Try.f103.body.getD .ret) := by kernel_rfl
theorem r : cRV Try.prog Try.f103.results.toList = some rv := by kernel_rfl
theorem ca : Callable Try.prog 103 = true := by kernel_rfl
theorem enter {args : List SV} {F : Hp} {k nk : Nat} {Q : SV → Hp → Prop} (hargs : SV.oks (fun n => decide (n < k)) args = true) (hF : F.ok (fun n => decide (n < k)) = true) (hN : args.length ≤ 29)
    (h : SW Try.prog 29 k s ⟨argE 0 args, F, k⟩ fun e st' => match e with | .normal => Fin k nk rv Q st' | .ret => Fin k nk rv Q st' | _ => False) : SB Try.prog 103 args F k nk Q :=
  SB.of_body Try.func103 b c r ca hargs hF hN h
end ref04_Merge
namespace ref04_Meet
abbrev f : Nat := 104
def s : SCo := (.seq
(.reg [⟨(some 2), .alloc 25 [(.d (.int .u32 0)), (.d (.int .u32 0)), (.d (.int .u32 0)), (.d (.int .u32 0)), (.d (.int .u32 0)), (.d (.int .u32 0)), (.d (.int .u32 0)), (.d (.int .u32 0))], none⟩] (fullB 1) false)
(.seq
(.seq
(.reg [⟨(some 6), .mv (.t 0), none⟩,
⟨(some 7), .len (.t 6), none⟩,
⟨(some 8), .bin .eql (.t 7) (.k (.d (.int .i64 0))), none⟩] (fullB 3) false)
(.cond (.t 8)
 (.seq
 (.reg [⟨(some 9), .bld [(.d (.int .u32 0)), (.d (.int .u32 0)), (.d (.int .u32 0)), (.d (.int .u32 0)), (.d (.int .u32 0)), (.d (.int .u32 0)), (.d (.int .u32 0)), (.d (.int .u32 0))] [], none⟩,
⟨none, .store 8 (.t 2) (.t 9), none⟩] (fullB 2) false)
 .ret)
 .skip))
(.seq
(.reg [⟨(some 10), .mv (.t 0), none⟩,
⟨(some 11), .idxS 8 (.t 10) (.k (.d (.int .i64 0))), none⟩,
⟨(some 12), .load (some 8) (.t 11), none⟩,
⟨(some 3), .alloc 25 [(.d (.int .u32 0)), (.d (.int .u32 0)), (.d (.int .u32 0)), (.d (.int .u32 0)), (.d (.int .u32 0)), (.d (.int .u32 0)), (.d (.int .u32 0)), (.d (.int .u32 0))], none⟩,
⟨none, .store 8 (.t 3) (.t 12), none⟩] (fullB 5) false)
(.seq
 (.seq
 (.reg [⟨(some 4), .mv (.k (.d (.int .i64 0))), none⟩] (fullB 1) false)
 (.block 0
 (.loop
 (.seq
  (.seq
  (.reg [⟨(some 13), .mv (.t 4), none⟩,
⟨(some 14), .mv (.t 0), none⟩,
⟨(some 15), .len (.t 14), none⟩,
⟨(some 16), .bin .lss (.t 13) (.t 15), none⟩] (fullB 4) false)
  (.cond (.t 16)
  .skip
  (.exit 0)))
  (.seq
  (.block 1
  (.seq
  (.reg [⟨(some 5), .mv (.k (.d (.int .i64 0))), none⟩] (fullB 1) false)
  (.block 2
   (.loop
   (.seq
   (.seq
   (.reg [⟨(some 19), .mv (.t 5), none⟩,
⟨(some 20), .bin .lss (.t 19) (.k (.d (.int .i64 8))), none⟩] (fullB 2) false)
   (.cond (.t 20)
    .skip
    (.exit 2)))
   (.seq
   (.block 3
    (.reg [⟨(some 23), .mv (.t 5), none⟩,
⟨(some 24), .mv (.t 5), none⟩,
⟨(some 25), .idxA 8 1 (.t 3) (.t 24), none⟩,
⟨(some 26), .load none (.t 25), none⟩,
⟨(some 27), .mv (.t 0), none⟩,
⟨(some 28), .mv (.t 4), none⟩,
⟨(some 29), .mv (.t 5), none⟩,
⟨(some 30), .idxS 8 (.t 27) (.t 28), none⟩,
⟨(some 31), .idxA 8 1 (.t 30) (.t 29), none⟩,
⟨(some 32), .load none (.t 31), none⟩,
⟨(some 33), .mn (.t 26) (.t 32), none⟩,
⟨(some 34), .idxA 8 1 (.t 3) (.t 23), none⟩,
⟨none, .store 1 (.t 34) (.t 33), none⟩] [0,
0,
2,
6,
0,
0,
0,
48,
240,
496,
1022,
2047,
4095] true))
   (.reg [⟨(some 21), .mv (.t 5), none⟩,
⟨(some 22), .bin .add (.t 21) (.k (.d (.int .i64 1))), none⟩,
⟨(some 5), .mv (.t 22), none⟩] (fullB 3) false)))))))
  (.reg [⟨(some 17), .mv (.t 4), none⟩,
⟨(some 18), .bin .add (.t 17) (.k (.d (.int .i64 1))), none⟩,
⟨(some 4), .mv (.t 18), none⟩] (fullB 3) false))))))
 (.seq
 (.reg [⟨(some 35), .load (some 8) (.t 3), none⟩,
⟨none, .store 8 (.t 2) (.t 35), none⟩] (fullB 2) false)
 .ret)))))
def rv : List RV := [.cell 2 (some 8)]
theorem c : cK Try.prog Try.f104.ntmps (Try.f104.body.getD .ret) = some s := by kernel_rfl
theorem b : Try.f104.body = some (Try.f104.body.getD .ret) := by kernel_rfl
theorem r : cRV Try.prog Try.f104.results.toList = some rv := by kernel_rfl
theorem ca : Callable Try.prog 104 = true := by kernel_rfl
theorem enter {args : List SV} {F : Hp} {k nk : Nat} {Q : SV → Hp → Prop} (hargs : SV.oks (fun n => decide (n < k)) args = true) (hF : F.ok (fun n => decide (n < k)) = true) (hN : args.length ≤ 36)
    (h : SW Try.prog 36 k s ⟨argE 0 args, F, k⟩ fun e st' => match e with | .normal => Fin k nk rv Q st' | .ret => Fin k nk rv Q st' | _ => False) : SB Try.prog 104 args F k nk Q :=
  SB.of_body Try.func104 b c r ca hargs hF hN h
end ref04_Meet
namespace vector_Merge_1
abbrev f : Nat := 111
def s : SCo := (.seq
(.reg [⟨(some 4), .mv (.k (.d (.int .u32 0))), none⟩] (fullB 1) false)
(.seq
(.reg [⟨(some 5), .mv (.t 0), none⟩,
⟨(some 6), .mv (.t 1), none⟩,
⟨(some 7), .mx (.t 5) (.t 6), none⟩,
⟨(some 4), .mv (.t 7), none⟩] (fullB 4) false)
.ret))
def rv : List RV := [.tmp 4]
theorem c : cK Try.prog Try.f111.ntmps (Try.f111.body.getD .ret) = some s := by kernel_rfl
theorem b : Try.f111.body = some (Try.f111.body.getD .ret) := by kernel_rfl
theorem r : cRV Try.prog Try.f111.results.toList = some rv := by kernel_rfl
theorem ca : Callable Try.prog 111 = true := by kernel_rfl
theorem enter {args : List SV} {F : Hp} {k nk : Nat} {Q : SV → Hp → Prop} (hargs : SV.oks (fun n => decide (n < k)) args = true) (hF : F.ok (fun n => decide (n < k)) = true) (hN : args.length ≤ 8)
    (h : SW Try.prog 8 k s ⟨argE 0 args, F, k⟩ fun e st' => match e with | .normal => Fin k nk rv Q st' | .ret => Fin k nk rv Q st' | _ => False) : SB Try.prog 111 args F k nk Q :=
  SB.of_body Try.func111 b c r ca hargs hF hN h
end vector_Merge_1
namespace vector_each_1
abbrev f : Nat := 112
def s : SCo := (.seq
(.reg [⟨(some 3), .box 25 (.t 0), none⟩,
⟨(some 4), .box 25 (.t 1), none⟩,
⟨(some 5), .alloc 25 [(.d (.int .u32 0)), (.d (.int .u32 0)), (.d (.int .u32 0)), (.d (.int .u32 0)), (.d (.int .u32 0)), (.d (.int .u32 0)), (.d (.int .u32 0)), (.d (.int .u32 0))], none⟩] (fullB 3) false)
(.seq
(.seq
(.reg [⟨(some 7), .mv (.k (.d (.int .i64 0))), none⟩] (fullB 1) false)
(.block 0
 (.loop
 (.seq
 (.reg [⟨(some 8), .bin .lss (.t 7) (.k (.d (.int .i64 8))), none⟩] (fullB 1) false)
 (.seq
 (.cond (.t 8)
  .skip
  (.exit 0))
 (.seq
  (.block 1
  (.seq
  (.reg [⟨(some 9), .mv (.t 7), none⟩,
⟨(some 6), .mv (.t 9), none⟩] (fullB 2) false)
  (.reg [⟨(some 10), .mv (.t 6), none⟩,
⟨(some 11), .load none (.t 2), none⟩,
⟨(some 12), .mv (.t 6), none⟩,
⟨(some 13), .idxA 8 1 (.t 3) (.t 12), none⟩,
⟨(some 14), .load none (.t 13), none⟩,
⟨(some 15), .mv (.t 6), none⟩,
⟨(some 16), .idxA 8 1 (.t 4) (.t 15), none⟩,
⟨(some 17), .load none (.t 16), none⟩,
⟨(some 18), .call (.t 11) [(.t 14), (.t 17)], none⟩,
⟨(some 19), .idxA 8 1 (.t 5) (.t 10), none⟩,
⟨none, .store 1 (.t 19) (.t 18), none⟩] [0,
0,
0,
4,
12,
0,
32,
96,
254,
511,
1023] true)))
  (.reg [⟨(some 20), .bin .add (.t 7) (.k (.d (.int .i64 1))), none⟩,
⟨(some 7), .mv (.t 20), none⟩] (fullB 2) false)))))))
(.seq
(.reg [⟨(some 21), .load (some 8) (.t 5), none⟩,
⟨none, .store 8 (.t 5) (.t 21), none⟩] (fullB 2) false)
.ret)))
def rv : List RV := [.cell 5 (some 8)]
theorem c : cK Try.prog Try.f112.ntmps (Try.f112.body.getD .ret) = some s := by kernel_rfl
theorem b : Try.f112.body = some (Try.f112.body.getD .ret) := by kernel_rfl
theorem r : cRV Try.prog Try.f112.results.toList = some rv := by kernel_rfl
theorem ca : Callable Try.prog 112 = true := by kernel_rfl
theorem enter {args : List SV} {F : Hp} {k nk : Nat} {Q : SV → Hp → Prop} (hargs : SV.oks (fun n => decide (n < k)) args = true) (hF : F.ok (fun n => decide (n < k)) = true) (hN : args.length ≤ 22)
    (h : SW Try.prog 22 k s ⟨argE 0 args, F, k⟩ fun e st' => match e with | .normal => Fin k nk rv Q st' | .ret => Fin k nk rv Q st' | _ => False) : SB Try.prog 112 args F k nk Q :=
  SB.of_body Try.func112 b c r ca hargs hF hN h
end vector_each_1
namespace vector_Covers
end vector_Covers
namespace dot_May
abbrev f : Nat := 115
def s : SCo := (.seq
(.reg [⟨(some 1), .box 37 (.t 0), none⟩,
⟨(some 2), .mv (.k (.d (.bool false))), none⟩] (fullB 2) false)
(.seq
(.reg [⟨(some 3), .fld 0 (.t 1), none⟩,
⟨(some 4), .load none (.t 3), none⟩,
⟨(some 5), .bin .lss (.t 4) (.k (.d (.int .u8 8))), none⟩,
⟨(some 6), .mv (.t 5), none⟩,
⟨(some 7), .fld 1 (.t 1), some (6, true)⟩,
⟨(some 8), .load none (.t 7), some (6, true)⟩,
⟨(some 9), .bin .gtr (.t 8) (.k (.d (.int .u32 0))), some (6, true)⟩,
⟨(some 10), .pick (.t 6) (.t 9) (.k (.d (.bool false))), none⟩,
⟨(some 2), .mv (.t 10), none⟩] (fullB 9) false)
.ret))
def rv : List RV := [.tmp 2]
theorem c : cK Try.prog Try.f115.ntmps (Try.f115.body.getD .ret) = some s := by kernel_rfl
theorem b : Try.f115.body = some (Try.f115.body.getD .ret) := by kernel_rfl
theorem r : cRV Try.prog Try.f115.results.toList = some rv := by kernel_rfl
theorem ca : Callable Try.prog 115 = true := by kernel_rfl
theorem enter {args : List SV} {F : Hp} {k nk : Nat} {Q : SV → Hp → Prop} (hargs : SV.oks (fun n => decide (n < k)) args = true) (hF : F.ok (fun n => decide (n < k)) = true) (hN : args.length ≤ 11)
    (h : SW Try.prog 11 k s ⟨argE 0 args, F, k⟩ fun e st' => match e with | .normal => Fin k nk rv Q st' | .ret => Fin k nk rv Q st' | _ => False) : SB Try.prog 115 args F k nk Q :=
  SB.of_body Try.func115 b c r ca hargs hF hN h
end dot_May
end Go.Proofs.Ytacdkgkpoelhdaa
