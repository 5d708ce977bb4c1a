/-
  The code of the functions in the small form, by program (gen.py); each is checked against the translation by the kernel.
-/
import Derived.Test.YtacdkgkpoelhdaaChecked
import Derived.Test.YtacdkgkpoelhdaaT4
set_option linter.unusedVariables false
set_option linter.unusedSimpArgs false
set_option linter.unusedSectionVars false
namespace Go.Proofs.Ytacdkgkpoelhdaa
open Go.Sl Go.Proofs
theorem mixed : Try.prog.follows .mixedOrders = true := by kernel_rfl
abbrev T_int : Nat := 3
abbrev T_bool : Nat := 4
abbrev T_L_api_Op : Nat := 22
abbrev T_uint32 : Nat := 23
abbrev T_api_Vector : Nat := 25
abbrev T_api_Dot : Nat := 37
abbrev T_L_api_Claim : Nat := 39
abbrev T_api_Op : Nat := 41
abbrev T_api_Claim : Nat := 120
namespace law12_StableSafe
def s : SCo := (.seq
(.reg [⟨(some 4), .box 25 (.t 1), none⟩,
⟨(some 6), .mv (.k (.d (.bool false))), none⟩] (fullB 2) false)
(.seq
(.reg [⟨(some 15), .call (.k (.fn (.func 9) [] [])) [(.k (.d (.int .i64 8))), (.k (.d (.int .u8 0)))], none⟩,
⟨(some 14), .mv (.t 15), none⟩,
⟨(some 16), .ext 0 (.t 14), none⟩,
⟨(some 17), .ext 1 (.t 14), none⟩,
⟨(some 7), .mv (.t 16), none⟩,
⟨(some 8), .mv (.t 17), none⟩] (fullB 6) false)
(.seq
(.seq
 (.reg (⟨(some 18), .mv (.t 8), none⟩ ::
⟨(some 19), .bin .neq (.t 18) (.k (.d (.int .i64 0))), none⟩ ::
⟨(some 20), .mv (.t 19), none⟩ ::
⟨(some 21), .mv (.t 7), some (20, false)⟩ ::
⟨(some 22), .eqnil false 0 (.t 21), some (20, false)⟩ ::
⟨(some 23), .pick (.t 20) (.k (.d (.bool true))) (.t 22), none⟩ ::
⟨(some 24), .mv (.t 23), none⟩ ::
⟨(some 25), .mv (.t 0), some (24, false)⟩ ::
⟨(some 26), .call (.k (.fn (.func 10) [] [])) [(.t 25), (.k (.d (.int .i64 8)))], some (24, false)⟩ ::
⟨(some 27), .bin .neq (.t 26) (.k (.d (.int .i64 0))), some (24, false)⟩ ::
⟨(some 28), .pick (.t 24) (.k (.d (.bool true))) (.t 27), none⟩ ::
⟨(some 29), .mv (.t 28), none⟩ ::
⟨(some 30), .mv (.t 0), some (29, false)⟩ ::
⟨(some 31), .call (.k (.fn (.func 11) [] [])) [(.t 30)], some (29, false)⟩ ::
⟨(some 32), .pick (.t 29) (.k (.d (.bool true))) (.t 31), none⟩ ::
⟨(some 33), .mv (.t 32), none⟩ ::
⟨(some 34), .mv (.t 7), some (33, false)⟩ ::
⟨(some 35), .load (some 8) (.t 4), some (33, false)⟩ ::
⟨(some 36), .call (.k (.fn (.func 12) [] [])) [(.t 34), (.t 35)], some (33, false)⟩ ::
⟨(some 37), .bin .neq (.t 36) (.k (.d (.int .i64 0))), some (33, false)⟩ ::
⟨(some 38), .pick (.t 33) (.k (.d (.bool true))) (.t 37), none⟩ :: []) (fullB 21) false)
 (.cond (.t 38)
 (.seq
 (.reg [⟨(some 39), .mv (.t 7), none⟩,
⟨(some 40), .eqnil true 0 (.t 39), none⟩,
⟨(some 41), .mv (.t 40), none⟩,
⟨(some 42), .call (.k (.fn (.func 13) [] [])) [], some (41, true)⟩,
⟨(some 43), .pick (.t 41) (.t 42) (.k (.d (.bool false))), none⟩,
⟨(some 6), .mv (.t 43), none⟩] (fullB 6) false)
 .ret)
 .skip))
(.seq
 (.seq
 (.reg [⟨(some 44), .mv (.t 0), none⟩,
⟨(some 45), .call (.k (.fn (.func 14) [] [])) [(.t 44)], none⟩,
⟨(some 46), .index 8 1 false (.t 45) (.k (.d (.int .i64 0))), none⟩,
⟨(some 47), .idxA 8 1 (.t 4) (.k (.d (.int .i64 0))), none⟩,
⟨(some 48), .load none (.t 47), none⟩,
⟨(some 49), .bin .neq (.t 46) (.t 48), none⟩] [0,
1,
3,
0,
8,
31] true)
 (.cond (.t 49)
 (.seq
 (.reg [⟨(some 50), .call (.k (.fn (.func 13) [] [])) [], none⟩,
⟨(some 6), .mv (.t 50), none⟩] (fullB 2) false)
 .ret)
 .skip))
 (.seq
 (.seq
 (.reg [⟨(some 9), .mv (.k (.d (.int .i64 0))), none⟩] (fullB 1) false)
 (.block 0
 (.loop
  (.seq
  (.seq
  (.reg [⟨(some 51), .mv (.t 9), none⟩,
⟨(some 52), .mv (.t 2), none⟩,
⟨(some 53), .len (.t 52), none⟩,
⟨(some 54), .bin .lss (.t 51) (.t 53), none⟩,
⟨(some 55), .mv (.t 54), none⟩,
⟨(some 56), .mv (.t 9), some (55, true)⟩,
⟨(some 57), .bin .lss (.t 56) (.k (.d (.int .i64 100))), some (55, true)⟩,
⟨(some 58), .pick (.t 55) (.t 57) (.k (.d (.bool false))), none⟩,
⟨(some 59), .mv (.t 58), none⟩,
⟨(some 60), .mv (.t 0), some (59, true)⟩,
⟨(some 61), .len (.t 60), some (59, true)⟩,
⟨(some 62), .bin .gtr (.t 61) (.k (.d (.int .i64 0))), some (59, true)⟩,
⟨(some 63), .pick (.t 59) (.t 62) (.k (.d (.bool false))), none⟩] (fullB 13) false)
  (.cond (.t 63)
  .skip
  (.exit 0)))
  (.seq
  (.block 1
  (.seq
   (.reg [⟨(some 66), .mv (.t 0), none⟩,
⟨(some 67), .mv (.t 2), none⟩,
⟨(some 68), .mv (.t 9), none⟩,
⟨(some 69), .idxS 1 (.t 67) (.t 68), none⟩,
⟨(some 70), .load none (.t 69), none⟩,
⟨(some 71), .conv .i64 (.t 70), none⟩,
⟨(some 72), .mv (.t 0), none⟩,
⟨(some 73), .len (.t 72), none⟩,
⟨(some 74), .bin .rem (.t 71) (.t 73), none⟩,
⟨(some 75), .idxS 29 (.t 66) (.t 74), none⟩,
⟨(some 76), .load (some 29) (.t 75), none⟩,
⟨(some 10), .alloc 41 [(.d (.int .u8 0)), (.d (.int .u32 0)), (.d (.int .u32 0)), (.d (.int .u32 0)), (.d (.int .u32 0)), (.d (.int .u32 0)), (.d (.int .u32 0)), (.d (.int .u32 0)), (.d (.int .u32 0)), (.d (.int .u32 0)), (.d (.int .u64 0)), (.d (.int .u32 0)), (.d (.int .u8 0)), (.d (.int .u32 0)), (.d (.int .u8 0)), (.d (.int .u8 0)), (.d (.int .u32 0)), (.d (.int .u32 0)), (.d (.int .u8 0)), (.d (.int .u8 0)), (.d (.int .u64 0)), (.d (.int .u8 0)), (.d (.int .u32 0)), (.d (.int .u8 0)), (.d (.int .u32 0)), (.d (.int .u32 0)), (.d (.int .u32 0)), (.d (.int .u32 0)), (.d .nils)], none⟩,
⟨none, .store 29 (.t 10) (.t 76), none⟩] (fullB 13) false)
   (.seq
   (.reg [⟨(some 77), .fld 2 (.t 10), none⟩,
⟨(some 78), .load (some 8) (.t 77), none⟩,
⟨(some 11), .alloc 25 [(.d (.int .u32 0)), (.d (.int .u32 0)), (.d (.int .u32 0)), (.d (.int .u32 0)), (.d (.int .u32 0)), (.d (.int .u32 0)), (.d (.int .u32 0)), (.d (.int .u32 0))], none⟩,
⟨none, .store 8 (.t 11) (.t 78), none⟩] (fullB 4) false)
   (.seq
   (.reg [⟨(some 79), .fld 0 (.t 10), none⟩,
⟨(some 80), .fld 0 (.t 79), none⟩,
⟨(some 81), .load none (.t 80), none⟩,
⟨(some 82), .fld 0 (.t 10), none⟩,
⟨(some 83), .fld 1 (.t 82), none⟩,
⟨(some 84), .load none (.t 83), none⟩,
⟨(some 85), .idxA 8 1 (.t 11) (.t 81), none⟩,
⟨none, .store 1 (.t 85) (.t 84), none⟩] (fullB 8) false)
   (.reg [⟨(some 86), .mv (.t 7), none⟩,
⟨(some 87), .fld 0 (.t 10), none⟩,
⟨(some 88), .fld 0 (.t 87), none⟩,
⟨(some 89), .load none (.t 88), none⟩,
⟨(some 90), .load (some 8) (.t 11), none⟩,
⟨(some 91), .call (.k (.fn (.func 15) [] [])) [(.t 86), (.t 89), (.t 90)], none⟩] (fullB 6) false)))))
  (.reg [⟨(some 64), .mv (.t 9), none⟩,
⟨(some 65), .bin .add (.t 64) (.k (.d (.int .i64 1))), none⟩,
⟨(some 9), .mv (.t 65), none⟩] (fullB 3) false))))))
 (.seq
 (.reg [⟨(some 92), .mv (.t 7), none⟩,
⟨(some 93), .call (.k (.fn (.func 16) [] [])) [(.t 92)], none⟩,
⟨(some 12), .alloc 25 [(.d (.int .u32 0)), (.d (.int .u32 0)), (.d (.int .u32 0)), (.d (.int .u32 0)), (.d (.int .u32 0)), (.d (.int .u32 0)), (.d (.int .u32 0)), (.d (.int .u32 0))], none⟩,
⟨none, .store 8 (.t 12) (.t 93), none⟩] (fullB 4) false)
 (.seq
 (.seq
  (.reg [⟨(some 13), .mv (.k (.d (.int .i64 0))), none⟩] (fullB 1) false)
  (.block 2
  (.loop
  (.seq
  (.seq
   (.reg [⟨(some 94), .mv (.t 13), none⟩,
⟨(some 95), .mv (.t 0), none⟩,
⟨(some 96), .len (.t 95), none⟩,
⟨(some 97), .bin .lss (.t 94) (.t 96), none⟩] (fullB 4) false)
   (.cond (.t 97)
   .skip
   (.exit 2)))
  (.seq
   (.block 3
   (.seq
   (.reg (⟨(some 100), .load (some 8) (.t 4), none⟩ ::
⟨(some 101), .mv (.t 0), none⟩ ::
⟨(some 102), .mv (.t 13), none⟩ ::
⟨(some 103), .idxS 29 (.t 101) (.t 102), none⟩ ::
⟨(some 104), .fld 0 (.t 103), none⟩ ::
⟨(some 105), .load (some 2) (.t 104), none⟩ ::
⟨(some 106), .call (.k (.fn (.func 17) [] [])) [(.t 100), (.t 105)], none⟩ ::
⟨(some 107), .not (.t 106), none⟩ ::
⟨(some 108), .mv (.t 107), none⟩ ::
⟨(some 109), .mv (.t 0), some (108, true)⟩ ::
⟨(some 110), .mv (.t 13), some (108, true)⟩ ::
⟨(some 111), .idxS 29 (.t 109) (.t 110), some (108, true)⟩ ::
⟨(some 112), .fld 2 (.t 111), some (108, true)⟩ ::
⟨(some 113), .load (some 8) (.t 112), some (108, true)⟩ ::
⟨(some 114), .load (some 8) (.t 12), some (108, true)⟩ ::
⟨(some 115), .call (.k (.fn (.func 18) [] [])) [(.t 113), (.t 114)], some (108, true)⟩ ::
⟨(some 116), .not (.t 115), some (108, true)⟩ ::
⟨(some 117), .pick (.t 108) (.t 116) (.k (.d (.bool false))), none⟩ :: []) (0 ::
0 ::
0 ::
6 ::
14 ::
30 ::
63 ::
127 ::
255 ::
511 ::
511 ::
2047 ::
4095 ::
8191 ::
511 ::
32767 ::
65535 ::
131071 :: []) true)
   (.cond (.t 117)
   (.seq
    (.reg [⟨(some 6), .mv (.k (.d (.bool false))), none⟩] (fullB 1) false)
    .ret)
   .skip)))
   (.reg [⟨(some 98), .mv (.t 13), none⟩,
⟨(some 99), .bin .add (.t 98) (.k (.d (.int .i64 1))), none⟩,
⟨(some 13), .mv (.t 99), none⟩] (fullB 3) false))))))
 (.seq
  (.reg [⟨(some 118), .call (.k (.fn (.func 13) [] [])) [], none⟩,
⟨(some 6), .mv (.t 118), none⟩] (fullB 2) false)
  .ret))))))))
def rv : List RV := [.tmp 6]
theorem c : cK Try.prog Try.f3.ntmps (Try.f3.body.getD .ret) = some s := by kernel_rfl
theorem b : Try.f3.body = some (Try.f3.body.getD .ret) := by kernel_rfl
theorem r : cRV Try.prog Try.f3.results.toList = some rv := by kernel_rfl
theorem ca : Callable Try.prog 3 = true := by kernel_rfl
theorem enter {args : List SV} {F : Hp} {k nk : Nat} {Q : SV → Hp → Prop} (hargs : SV.oks (fun n => decide (n < k)) args = true) (hF : F.ok (fun n => decide (n < k)) = true) (hN : args.length ≤ 119)
    (h : SW Try.prog 119 k s ⟨argE 0 args, F, k⟩ fun e st' => match e with | .normal => Fin k nk rv Q st' | .ret => Fin k nk rv Q st' | _ => False) : SB Try.prog 3 args F k nk Q :=
  SB.of_body Try.func3 b c r ca hargs hF hN h
end law12_StableSafe
namespace law16_TreeBegins
end law16_TreeBegins
namespace law12_StableGrows
end law12_StableGrows
namespace law12_StablePlays
end law12_StablePlays
namespace stable_New
end stable_New
namespace ref10_History
abbrev f : Nat := 10
def s : SCo := (.seq
(.reg [⟨(some 4), .mv (.k (.d (.int .i64 0))), none⟩] (fullB 1) false)
(.seq
(.seq
(.reg [⟨(some 7), .mv (.t 1), none⟩,
⟨(some 8), .bin .lss (.t 7) (.k (.d (.int .i64 1))), none⟩,
⟨(some 9), .mv (.t 8), none⟩,
⟨(some 10), .mv (.t 1), some (9, false)⟩,
⟨(some 11), .bin .gtr (.t 10) (.k (.d (.int .i64 8))), some (9, false)⟩,
⟨(some 12), .pick (.t 9) (.k (.d (.bool true))) (.t 11), none⟩] (fullB 6) false)
(.cond (.t 12)
 (.seq
 (.reg [⟨(some 4), .mv (.k (.d (.int .i64 2))), none⟩] (fullB 1) false)
 .ret)
 .skip))
(.seq
(.seq
 (.reg [⟨(some 5), .mv (.k (.d (.int .i64 0))), none⟩] (fullB 1) false)
 (.block 0
 (.loop
 (.seq
 (.seq
  (.reg [⟨(some 13), .mv (.t 5), none⟩,
⟨(some 14), .mv (.t 0), none⟩,
⟨(some 15), .len (.t 14), none⟩,
⟨(some 16), .bin .lss (.t 13) (.t 15), none⟩] (fullB 4) false)
  (.cond (.t 16)
  .skip
  (.exit 0)))
 (.seq
  (.block 1
  (.seq
  (.reg [⟨(some 19), .mv (.t 0), none⟩,
⟨(some 20), .mv (.t 5), none⟩,
⟨(some 21), .idxS 29 (.t 19) (.t 20), none⟩,
⟨(some 22), .load (some 29) (.t 21), none⟩,
⟨(some 23), .mv (.t 1), none⟩,
⟨(some 24), .call (.k (.fn (.func 36) [] [])) [(.t 22), (.t 23)], none⟩,
⟨(some 25), .bin .neq (.t 24) (.k (.d (.int .i64 0))), none⟩] (fullB 7) false)
  (.cond (.t 25)
  (.seq
   (.reg [⟨(some 4), .mv (.k (.d (.int .i64 5))), none⟩] (fullB 1) false)
   .ret)
  .skip)))
  (.reg [⟨(some 17), .mv (.t 5), none⟩,
⟨(some 18), .bin .add (.t 17) (.k (.d (.int .i64 1))), none⟩,
⟨(some 5), .mv (.t 18), none⟩] (fullB 3) false))))))
(.seq
 (.seq
 (.reg [⟨(some 6), .mv (.k (.d (.int .i64 0))), none⟩] (fullB 1) false)
 (.block 2
 (.loop
 (.seq
  (.seq
  (.reg [⟨(some 26), .mv (.t 6), none⟩,
⟨(some 27), .mv (.t 0), none⟩,
⟨(some 28), .len (.t 27), none⟩,
⟨(some 29), .bin .lss (.t 26) (.t 28), none⟩] (fullB 4) false)
  (.cond (.t 29)
  .skip
  (.exit 2)))
  (.seq
  (.block 3
  (.seq
  (.reg [⟨(some 32), .mv (.t 0), none⟩,
⟨(some 33), .mv (.t 0), none⟩,
⟨(some 34), .mv (.t 6), none⟩,
⟨(some 35), .idxS 29 (.t 33) (.t 34), none⟩,
⟨(some 36), .load (some 29) (.t 35), none⟩,
⟨(some 37), .call (.k (.fn (.func 37) [] [])) [(.t 32), (.t 36)], none⟩,
⟨(some 38), .not (.t 37), none⟩] (fullB 7) false)
  (.cond (.t 38)
   (.seq
   (.reg [⟨(some 4), .mv (.k (.d (.int .i64 9))), none⟩] (fullB 1) false)
   .ret)
   .skip)))
  (.reg [⟨(some 30), .mv (.t 6), none⟩,
⟨(some 31), .bin .add (.t 30) (.k (.d (.int .i64 1))), none⟩,
⟨(some 6), .mv (.t 31), none⟩] (fullB 3) false))))))
 (.seq
 (.reg [⟨(some 4), .mv (.k (.d (.int .i64 0))), none⟩] (fullB 1) false)
 .ret)))))
def rv : List RV := [.tmp 4]
theorem c : cK Try.prog Try.f10.ntmps (Try.f10.body.getD .ret) = some s := by kernel_rfl
theorem b : Try.f10.body = some (Try.f10.body.getD .ret) := by kernel_rfl
theorem r : cRV Try.prog Try.f10.results.toList = some rv := by kernel_rfl
theorem ca : Callable Try.prog 10 = true := by kernel_rfl
theorem enter {args : List SV} {F : Hp} {k nk : Nat} {Q : SV → Hp → Prop} (hargs : SV.oks (fun n => decide (n < k)) args = true) (hF : F.ok (fun n => decide (n < k)) = true) (hN : args.length ≤ 39)
    (h : SW Try.prog 39 k s ⟨argE 0 args, F, k⟩ fun e st' => match e with | .normal => Fin k nk rv Q st' | .ret => Fin k nk rv Q st' | _ => False) : SB Try.prog 10 args F k nk Q :=
  SB.of_body Try.func10 b c r ca hargs hF hN h
end ref10_History
namespace ref10_Great
abbrev f : Nat := 11
def s : SCo := (.seq
(.reg [⟨(some 2), .mv (.k (.d (.bool false))), none⟩] (fullB 1) false)
(.seq
(.reg [⟨(some 3), .mv (.k (.d (.int .i64 0))), none⟩] (fullB 1) false)
(.seq
(.seq
 (.reg [⟨(some 4), .mv (.k (.d (.int .i64 0))), none⟩] (fullB 1) false)
 (.block 0
 (.loop
 (.seq
 (.seq
  (.reg [⟨(some 5), .mv (.t 4), none⟩,
⟨(some 6), .mv (.t 0), none⟩,
⟨(some 7), .len (.t 6), none⟩,
⟨(some 8), .bin .lss (.t 5) (.t 7), none⟩,
⟨(some 9), .mv (.t 8), none⟩,
⟨(some 10), .mv (.t 4), some (9, true)⟩,
⟨(some 11), .bin .lss (.t 10) (.k (.d (.int .i64 100))), some (9, true)⟩,
⟨(some 12), .pick (.t 9) (.t 11) (.k (.d (.bool false))), none⟩] (fullB 8) false)
  (.cond (.t 12)
  .skip
  (.exit 0)))
 (.seq
  (.block 1
  (.reg [⟨(some 15), .mv (.t 3), none⟩,
⟨(some 16), .mv (.t 0), none⟩,
⟨(some 17), .mv (.t 4), none⟩,
⟨(some 18), .idxS 29 (.t 16) (.t 17), none⟩,
⟨(some 19), .fld 28 (.t 18), none⟩,
⟨(some 20), .load none (.t 19), none⟩,
⟨(some 21), .len (.t 20), none⟩,
⟨(some 22), .bin .add (.t 15) (.t 21), none⟩,
⟨(some 3), .mv (.t 22), none⟩] (fullB 9) false))
  (.reg [⟨(some 13), .mv (.t 4), none⟩,
⟨(some 14), .bin .add (.t 13) (.k (.d (.int .i64 1))), none⟩,
⟨(some 4), .mv (.t 14), none⟩] (fullB 3) false))))))
(.seq
 (.reg [⟨(some 23), .mv (.t 0), none⟩,
⟨(some 24), .len (.t 23), none⟩,
⟨(some 25), .bin .gtr (.t 24) (.k (.d (.int .i64 80))), none⟩,
⟨(some 26), .mv (.t 25), none⟩,
⟨(some 27), .mv (.t 3), some (26, false)⟩,
⟨(some 28), .bin .gtr (.t 27) (.k (.d (.int .i64 300))), some (26, false)⟩,
⟨(some 29), .pick (.t 26) (.k (.d (.bool true))) (.t 28), none⟩,
⟨(some 2), .mv (.t 29), none⟩] (fullB 8) false)
 .ret))))
def rv : List RV := [.tmp 2]
theorem c : cK Try.prog Try.f11.ntmps (Try.f11.body.getD .ret) = some s := by kernel_rfl
theorem b : Try.f11.body = some (Try.f11.body.getD .ret) := by kernel_rfl
theorem r : cRV Try.prog Try.f11.results.toList = some rv := by kernel_rfl
theorem ca : Callable Try.prog 11 = true := by kernel_rfl
theorem enter {args : List SV} {F : Hp} {k nk : Nat} {Q : SV → Hp → Prop} (hargs : SV.oks (fun n => decide (n < k)) args = true) (hF : F.ok (fun n => decide (n < k)) = true) (hN : args.length ≤ 30)
    (h : SW Try.prog 30 k s ⟨argE 0 args, F, k⟩ fun e st' => match e with | .normal => Fin k nk rv Q st' | .ret => Fin k nk rv Q st' | _ => False) : SB Try.prog 11 args F k nk Q :=
  SB.of_body Try.func11 b c r ca hargs hF hN h
end ref10_Great
namespace stable_Tracker_Has
end stable_Tracker_Has
namespace law12_head
end law12_head
namespace ref10_Known
end ref10_Known
namespace stable_Tracker_Hear
end stable_Tracker_Hear
namespace stable_Tracker_Stable
end stable_Tracker_Stable
namespace ref04_Covers
abbrev f : Nat := 17
def s : SCo := (.seq
(.reg [⟨(some 2), .box 25 (.t 0), none⟩,
⟨(some 3), .box 37 (.t 1), none⟩,
⟨(some 4), .mv (.k (.d (.bool false))), none⟩] (fullB 3) false)
(.seq
(.reg [⟨(some 5), .load (some 2) (.t 3), none⟩,
⟨(some 6), .call (.k (.fn (.func 44) [] [])) [(.t 5)], none⟩,
⟨(some 7), .mv (.t 6), none⟩,
⟨(some 8), .fld 1 (.t 3), some (7, true)⟩,
⟨(some 9), .load none (.t 8), some (7, true)⟩,
⟨(some 10), .fld 0 (.t 3), some (7, true)⟩,
⟨(some 11), .load none (.t 10), some (7, true)⟩,
⟨(some 12), .idxA 8 1 (.t 2) (.t 11), some (7, true)⟩,
⟨(some 13), .load none (.t 12), some (7, true)⟩,
⟨(some 14), .bin .leq (.t 9) (.t 13), some (7, true)⟩,
⟨(some 15), .pick (.t 7) (.t 14) (.k (.d (.bool false))), none⟩,
⟨(some 4), .mv (.t 15), none⟩] [0,
1,
3,
7,
15,
7,
39,
103,
231,
511,
1023,
2047] true)
.ret))
def rv : List RV := [.tmp 4]
theorem c : cK Try.prog Try.f17.ntmps (Try.f17.body.getD .ret) = some s := by kernel_rfl
theorem b : Try.f17.body = some (Try.f17.body.getD .ret) := by kernel_rfl
theorem r : cRV Try.prog Try.f17.results.toList = some rv := by kernel_rfl
theorem ca : Callable Try.prog 17 = true := by kernel_rfl
theorem enter {args : List SV} {F : Hp} {k nk : Nat} {Q : SV → Hp → Prop} (hargs : SV.oks (fun n => decide (n < k)) args = true) (hF : F.ok (fun n => decide (n < k)) = true) (hN : args.length ≤ 16)
    (h : SW Try.prog 16 k s ⟨argE 0 args, F, k⟩ fun e st' => match e with | .normal => Fin k nk rv Q st' | .ret => Fin k nk rv Q st' | _ => False) : SB Try.prog 17 args F k nk Q :=
  SB.of_body Try.func17 b c r ca hargs hF hN h
end ref04_Covers
namespace ref04_Above
abbrev f : Nat := 18
def s : SCo := (.seq
(.reg [⟨(some 2), .box 25 (.t 0), none⟩,
⟨(some 3), .box 25 (.t 1), none⟩,
⟨(some 4), .mv (.k (.d (.bool false))), none⟩] (fullB 3) false)
(.seq
(.seq
(.reg [⟨(some 5), .mv (.k (.d (.int .i64 0))), none⟩] (fullB 1) false)
(.block 0
 (.loop
 (.seq
 (.seq
 (.reg [⟨(some 6), .mv (.t 5), none⟩,
⟨(some 7), .bin .lss (.t 6) (.k (.d (.int .i64 8))), none⟩] (fullB 2) false)
 (.cond (.t 7)
  .skip
  (.exit 0)))
 (.seq
 (.block 1
  (.seq
  (.reg [⟨(some 10), .mv (.t 5), none⟩,
⟨(some 11), .idxA 8 1 (.t 2) (.t 10), none⟩,
⟨(some 12), .load none (.t 11), none⟩,
⟨(some 13), .mv (.t 5), none⟩,
⟨(some 14), .idxA 8 1 (.t 3) (.t 13), none⟩,
⟨(some 15), .load none (.t 14), none⟩,
⟨(some 16), .bin .lss (.t 12) (.t 15), none⟩] [0,
1,
3,
0,
8,
24,
63] true)
  (.cond (.t 16)
  (.seq
  (.reg [⟨(some 4), .mv (.k (.d (.bool false))), none⟩] (fullB 1) false)
  .ret)
  .skip)))
 (.reg [⟨(some 8), .mv (.t 5), none⟩,
⟨(some 9), .bin .add (.t 8) (.k (.d (.int .i64 1))), none⟩,
⟨(some 5), .mv (.t 9), none⟩] (fullB 3) false))))))
(.seq
(.reg [⟨(some 4), .mv (.k (.d (.bool true))), none⟩] (fullB 1) false)
.ret)))
def rv : List RV := [.tmp 4]
theorem c : cK Try.prog Try.f18.ntmps (Try.f18.body.getD .ret) = some s := by kernel_rfl
theorem b : Try.f18.body = some (Try.f18.body.getD .ret) := by kernel_rfl
theorem r : cRV Try.prog Try.f18.results.toList = some rv := by kernel_rfl
theorem ca : Callable Try.prog 18 = true := by kernel_rfl
theorem enter {args : List SV} {F : Hp} {k nk : Nat} {Q : SV → Hp → Prop} (hargs : SV.oks (fun n => decide (n < k)) args = true) (hF : F.ok (fun n => decide (n < k)) = true) (hN : args.length ≤ 17)
    (h : SW Try.prog 17 k s ⟨argE 0 args, F, k⟩ fun e st' => match e with | .normal => Fin k nk rv Q st' | .ret => Fin k nk rv Q st' | _ => False) : SB Try.prog 18 args F k nk Q :=
  SB.of_body Try.func18 b c r ca hargs hF hN h
end ref04_Above
namespace law16_head
end law16_head
namespace ref10_Sort
end ref10_Sort
namespace tree_New
abbrev f : Nat := 21
def s : SCo := (.seq
(.reg [⟨(some 2), .mv (.k (.d .nilp)), none⟩] (fullB 1) false)
(.seq
(.reg [⟨(some 8), .mkm, none⟩,
⟨(some 9), .mkm, none⟩,
⟨(some 10), .bld [(.d .nilm), (.d .nilm)] [(0, 1, (.t 8)), (1, 1, (.t 9))], none⟩,
⟨(some 11), .box 101 (.t 10), none⟩,
⟨(some 3), .mv (.t 11), none⟩] (fullB 5) false)
(.seq
(.reg [⟨(some 12), .mkm, none⟩,
⟨(some 4), .alloc 102 [(.d .nilm)], none⟩,
⟨none, .store 1 (.t 4) (.t 12), none⟩] (fullB 3) false)
(.seq
 (.reg [⟨(some 13), .mv (.t 0), none⟩,
⟨(some 14), .call (.k (.fn (.func 53) [] [])) [(.t 13)], none⟩,
⟨(some 15), .mkf (.func 54) [] [(.t 4)], none⟩,
⟨(some 16), .call (.k (.fn (.func 52) [] [])) [(.t 14), (.t 15)], none⟩,
⟨(some 5), .mv (.t 16), none⟩] (fullB 5) false)
 (.seq
 (.seq
 (.reg [⟨(some 6), .mv (.k (.d (.bool true))), none⟩] (fullB 1) false)
 (.block 0
 (.loop
  (.seq
  (.seq
  (.reg [⟨(some 17), .mv (.t 6), none⟩] (fullB 1) false)
  (.cond (.t 17)
  .skip
  (.exit 0)))
  (.block 1
  (.seq
  (.reg [⟨(some 18), .mv (.t 5), none⟩,
⟨(some 19), .len (.t 18), none⟩,
⟨(some 7), .mv (.t 19), none⟩] (fullB 3) false)
  (.seq
   (.reg [⟨(some 20), .mv (.t 5), none⟩,
⟨(some 21), .mv (.t 3), none⟩,
⟨(some 22), .mkf (.func 55) [(.t 21)] [], none⟩,
⟨(some 23), .call (.k (.fn (.func 52) [] [])) [(.t 20), (.t 22)], none⟩,
⟨(some 5), .mv (.t 23), none⟩] (fullB 5) false)
   (.reg [⟨(some 24), .mv (.t 5), none⟩,
⟨(some 25), .len (.t 24), none⟩,
⟨(some 26), .mv (.t 7), none⟩,
⟨(some 27), .bin .lss (.t 25) (.t 26), none⟩,
⟨(some 6), .mv (.t 27), none⟩] (fullB 5) false))))))))
 (.seq
 (.reg [⟨(some 28), .mv (.t 3), none⟩,
⟨(some 2), .mv (.t 28), none⟩] (fullB 2) false)
 .ret))))))
def rv : List RV := [.tmp 2]
theorem c : cK Try.prog Try.f21.ntmps (Try.f21.body.getD .ret) = some s := by kernel_rfl
theorem b : Try.f21.body = some (Try.f21.body.getD .ret) := by kernel_rfl
theorem r : cRV Try.prog Try.f21.results.toList = some rv := by kernel_rfl
theorem ca : Callable Try.prog 21 = true := by kernel_rfl
theorem enter {args : List SV} {F : Hp} {k nk : Nat} {Q : SV → Hp → Prop} (hargs : SV.oks (fun n => decide (n < k)) args = true) (hF : F.ok (fun n => decide (n < k)) = true) (hN : args.length ≤ 29)
    (h : SW Try.prog 29 k s ⟨argE 0 args, F, k⟩ fun e st' => match e with | .normal => Fin k nk rv Q st' | .ret => Fin k nk rv Q st' | _ => False) : SB Try.prog 21 args F k nk Q :=
  SB.of_body Try.func21 b c r ca hargs hF hN h
end tree_New
namespace tree_Tree_Get
abbrev f : Nat := 22
def s : SCo := (.seq
(.reg [⟨(some 3), .box 37 (.t 1), none⟩,
⟨(some 4), .alloc 51 [(.d (.int .u8 0)), (.d (.int .u32 0)), (.d (.int .u8 0)), (.d (.int .u32 0)), (.d (.int .u8 0)), (.d (.int .u32 0)), (.d (.int .u32 0)), (.d (.int .u8 0)), (.d (.int .u8 0)), (.d (.int .u64 0)), (.d (.int .i64 0))], none⟩,
⟨(some 5), .mv (.k (.d (.int .i64 0))), none⟩] (fullB 3) false)
(.seq
(.seq
(.reg [⟨(some 8), .mv (.t 0), none⟩,
⟨(some 9), .call (.k (.fn (.func 56) [] [])) [(.t 8)], none⟩] (fullB 2) false)
(.cond (.t 9)
 (.seq
 (.reg [⟨(some 10), .bld [(.d (.int .u8 0)), (.d (.int .u32 0)), (.d (.int .u8 0)), (.d (.int .u32 0)), (.d (.int .u8 0)), (.d (.int .u32 0)), (.d (.int .u32 0)), (.d (.int .u8 0)), (.d (.int .u8 0)), (.d (.int .u64 0)), (.d (.int .i64 0))] [], none⟩,
⟨none, .store 11 (.t 4) (.t 10), none⟩,
⟨(some 5), .mv (.k (.d (.int .i64 1))), none⟩] (fullB 3) false)
 .ret)
 .skip))
(.seq
(.reg [⟨(some 12), .mv (.t 0), none⟩,
⟨(some 13), .nilc (.t 12), none⟩,
⟨(some 14), .fld 0 (.t 13), none⟩,
⟨(some 15), .load none (.t 14), none⟩,
⟨(some 16), .load (some 2) (.t 3), none⟩,
⟨(some 17), .look [true, true] true (.agg [(.d (.int .u8 0)), (.d (.int .u32 0)), (.d (.int .u8 0)), (.d (.int .u32 0)), (.d (.int .u8 0)), (.d (.int .u32 0)), (.d (.int .u32 0)), (.d (.int .u8 0)), (.d (.int .u8 0)), (.d (.int .u64 0)), (.d (.int .i64 0))]) (.t 15) (.t 16) true, none⟩,
⟨(some 11), .mv (.t 17), none⟩,
⟨(some 18), .ext 0 (.t 11), none⟩,
⟨(some 19), .ext 1 (.t 11), none⟩,
⟨(some 6), .alloc 51 [(.d (.int .u8 0)), (.d (.int .u32 0)), (.d (.int .u8 0)), (.d (.int .u32 0)), (.d (.int .u8 0)), (.d (.int .u32 0)), (.d (.int .u32 0)), (.d (.int .u8 0)), (.d (.int .u8 0)), (.d (.int .u64 0)), (.d (.int .i64 0))], none⟩,
⟨none, .store 11 (.t 6) (.t 18), none⟩,
⟨(some 7), .mv (.t 19), none⟩] [0,
1,
3,
7,
0,
31,
63,
127,
127,
0,
767,
2047] true)
(.seq
 (.seq
 (.reg [⟨(some 20), .mv (.t 7), none⟩,
⟨(some 21), .not (.t 20), none⟩] (fullB 2) false)
 (.cond (.t 21)
 (.seq
 (.reg [⟨(some 22), .bld [(.d (.int .u8 0)), (.d (.int .u32 0)), (.d (.int .u8 0)), (.d (.int .u32 0)), (.d (.int .u8 0)), (.d (.int .u32 0)), (.d (.int .u32 0)), (.d (.int .u8 0)), (.d (.int .u8 0)), (.d (.int .u64 0)), (.d (.int .i64 0))] [], none⟩,
⟨none, .store 11 (.t 4) (.t 22), none⟩,
⟨(some 5), .mv (.k (.d (.int .i64 7))), none⟩] (fullB 3) false)
 .ret)
 .skip))
 (.seq
 (.reg [⟨(some 23), .load (some 11) (.t 6), none⟩,
⟨none, .store 11 (.t 4) (.t 23), none⟩,
⟨(some 5), .mv (.k (.d (.int .i64 0))), none⟩] (fullB 3) false)
 .ret)))))
def rv : List RV := [.cell 4 (some 11), .tmp 5]
theorem c : cK Try.prog Try.f22.ntmps (Try.f22.body.getD .ret) = some s := by kernel_rfl
theorem b : Try.f22.body = some (Try.f22.body.getD .ret) := by kernel_rfl
theorem r : cRV Try.prog Try.f22.results.toList = some rv := by kernel_rfl
theorem ca : Callable Try.prog 22 = true := by kernel_rfl
theorem enter {args : List SV} {F : Hp} {k nk : Nat} {Q : SV → Hp → Prop} (hargs : SV.oks (fun n => decide (n < k)) args = true) (hF : F.ok (fun n => decide (n < k)) = true) (hN : args.length ≤ 24)
    (h : SW Try.prog 24 k s ⟨argE 0 args, F, k⟩ fun e st' => match e with | .normal => Fin k nk rv Q st' | .ret => Fin k nk rv Q st' | _ => False) : SB Try.prog 22 args F k nk Q :=
  SB.of_body Try.func22 b c r ca hargs hF hN h
end tree_Tree_Get
namespace tree_Tree_Chain
end tree_Tree_Chain
namespace ref03_Same
end ref03_Same
namespace stable_Tracker_Copy
end stable_Tracker_Copy
namespace stable_Tracker_Counts
end stable_Tracker_Counts
namespace stable_Tracker_Waits
end stable_Tracker_Waits
namespace ref12_New
end ref12_New
namespace law12_does
end law12_does
namespace law12_same
end law12_same
namespace stable_Tracker_Own
end stable_Tracker_Own
namespace ref05_Check
abbrev f : Nat := 36
def s : SCo := (.seq
(.reg [⟨(some 2), .box 41 (.t 0), none⟩,
⟨(some 4), .mv (.k (.d (.int .i64 0))), none⟩] (fullB 2) false)
(.seq
(.seq
(.reg [⟨(some 7), .mv (.t 1), none⟩,
⟨(some 8), .bin .lss (.t 7) (.k (.d (.int .i64 1))), none⟩,
⟨(some 9), .mv (.t 8), none⟩,
⟨(some 10), .mv (.t 1), some (9, false)⟩,
⟨(some 11), .bin .gtr (.t 10) (.k (.d (.int .i64 8))), some (9, false)⟩,
⟨(some 12), .pick (.t 9) (.k (.d (.bool true))) (.t 11), none⟩] (fullB 6) false)
(.cond (.t 12)
 (.seq
 (.reg [⟨(some 4), .mv (.k (.d (.int .i64 2))), none⟩] (fullB 1) false)
 .ret)
 .skip))
(.seq
(.seq
 (.reg (⟨(some 13), .fld 0 (.t 2), none⟩ ::
⟨(some 14), .fld 0 (.t 13), none⟩ ::
⟨(some 15), .load none (.t 14), none⟩ ::
⟨(some 16), .conv .i64 (.t 15), none⟩ ::
⟨(some 17), .mv (.t 1), none⟩ ::
⟨(some 18), .bin .geq (.t 16) (.t 17), none⟩ ::
⟨(some 19), .mv (.t 18), none⟩ ::
⟨(some 20), .fld 0 (.t 2), some (19, false)⟩ ::
⟨(some 21), .fld 1 (.t 20), some (19, false)⟩ ::
⟨(some 22), .load none (.t 21), some (19, false)⟩ ::
⟨(some 23), .bin .eql (.t 22) (.k (.d (.int .u32 0))), some (19, false)⟩ ::
⟨(some 24), .pick (.t 19) (.k (.d (.bool true))) (.t 23), none⟩ ::
⟨(some 25), .mv (.t 24), none⟩ ::
⟨(some 26), .fld 0 (.t 2), some (25, false)⟩ ::
⟨(some 27), .fld 0 (.t 26), some (25, false)⟩ ::
⟨(some 28), .load none (.t 27), some (25, false)⟩ ::
⟨(some 29), .fld 2 (.t 2), some (25, false)⟩ ::
⟨(some 30), .idxA 8 1 (.t 29) (.t 28), some (25, false)⟩ ::
⟨(some 31), .load none (.t 30), some (25, false)⟩ ::
⟨(some 32), .fld 0 (.t 2), some (25, false)⟩ ::
⟨(some 33), .fld 1 (.t 32), some (25, false)⟩ ::
⟨(some 34), .load none (.t 33), some (25, false)⟩ ::
⟨(some 35), .bin .sub (.t 34) (.k (.d (.int .u32 1))), some (25, false)⟩ ::
⟨(some 36), .bin .neq (.t 31) (.t 35), some (25, false)⟩ ::
⟨(some 37), .pick (.t 25) (.k (.d (.bool true))) (.t 36), none⟩ ::
⟨(some 38), .mv (.t 37), none⟩ ::
⟨(some 39), .fld 10 (.t 2), some (38, false)⟩ ::
⟨(some 40), .load none (.t 39), some (38, false)⟩ ::
⟨(some 41), .bin .lss (.t 40) (.k (.d (.int .u64 1))), some (38, false)⟩ ::
⟨(some 42), .pick (.t 38) (.k (.d (.bool true))) (.t 41), none⟩ ::
⟨(some 43), .mv (.t 42), none⟩ ::
⟨(some 44), .fld 10 (.t 2), some (43, false)⟩ ::
⟨(some 45), .load none (.t 44), some (43, false)⟩ ::
⟨(some 46), .bin .gtr (.t 45) (.k (.d (.int .u64 281474976710656))), some (43, false)⟩ ::
⟨(some 47), .pick (.t 43) (.k (.d (.bool true))) (.t 46), none⟩ ::
⟨(some 48), .mv (.t 47), none⟩ ::
⟨(some 49), .fld 11 (.t 2), some (48, false)⟩ ::
⟨(some 50), .load none (.t 49), some (48, false)⟩ ::
⟨(some 51), .bin .eql (.t 50) (.k (.d (.int .u32 0))), some (48, false)⟩ ::
⟨(some 52), .pick (.t 48) (.k (.d (.bool true))) (.t 51), none⟩ ::
⟨(some 53), .mv (.t 52), none⟩ ::
⟨(some 54), .fld 14 (.t 2), some (53, false)⟩ ::
⟨(some 55), .load none (.t 54), some (53, false)⟩ ::
⟨(some 56), .bin .gtr (.t 55) (.k (.d (.int .u8 8))), some (53, false)⟩ ::
⟨(some 57), .pick (.t 53) (.k (.d (.bool true))) (.t 56), none⟩ ::
⟨(some 58), .mv (.t 57), none⟩ ::
⟨(some 59), .load (some 29) (.t 2), some (58, false)⟩ ::
⟨(some 60), .call (.k (.fn (.func 80) [] [])) [(.t 59)], some (58, false)⟩ ::
⟨(some 61), .not (.t 60), some (58, false)⟩ ::
⟨(some 62), .pick (.t 58) (.k (.d (.bool true))) (.t 61), none⟩ :: []) (0 ::
1 ::
3 ::
7 ::
0 ::
31 ::
63 ::
127 ::
255 ::
511 ::
1023 ::
2047 ::
4095 ::
8191 ::
16383 ::
32767 ::
8191 ::
131071 ::
262143 ::
8191 ::
532479 ::
1581055 ::
3678207 ::
8388607 ::
16777215 ::
33554431 ::
67108863 ::
134217727 ::
268435455 ::
536870911 ::
1073741823 ::
2147483647 ::
4294967295 ::
8589934591 ::
17179869183 ::
34359738367 ::
68719476735 ::
137438953471 ::
274877906943 ::
549755813887 ::
1099511627775 ::
2199023255551 ::
4398046511103 ::
8796093022207 ::
17592186044415 ::
35184372088831 ::
70368744177663 ::
140737488355327 ::
281474976710655 ::
562949953421311 :: []) true)
 (.cond (.t 62)
 (.seq
 (.reg [⟨(some 4), .mv (.k (.d (.int .i64 5))), none⟩] (fullB 1) false)
 .ret)
 .skip))
(.seq
 (.seq
 (.reg [⟨(some 63), .mv (.t 1), none⟩,
⟨(some 5), .mv (.t 63), none⟩] (fullB 2) false)
 (.block 0
 (.loop
 (.seq
  (.seq
  (.reg [⟨(some 64), .mv (.t 5), none⟩,
⟨(some 65), .bin .lss (.t 64) (.k (.d (.int .i64 8))), none⟩] (fullB 2) false)
  (.cond (.t 65)
  .skip
  (.exit 0)))
  (.seq
  (.block 1
  (.seq
  (.reg [⟨(some 68), .mv (.t 5), none⟩,
⟨(some 69), .fld 2 (.t 2), none⟩,
⟨(some 70), .idxA 8 1 (.t 69) (.t 68), none⟩,
⟨(some 71), .load none (.t 70), none⟩,
⟨(some 72), .bin .neq (.t 71) (.k (.d (.int .u32 0))), none⟩] (fullB 5) false)
  (.cond (.t 72)
   (.seq
   (.reg [⟨(some 4), .mv (.k (.d (.int .i64 5))), none⟩] (fullB 1) false)
   .ret)
   .skip)))
  (.reg [⟨(some 66), .mv (.t 5), none⟩,
⟨(some 67), .bin .add (.t 66) (.k (.d (.int .i64 1))), none⟩,
⟨(some 5), .mv (.t 67), none⟩] (fullB 3) false))))))
 (.seq
 (.reg [⟨(some 73), .fld 14 (.t 2), none⟩,
⟨(some 74), .load none (.t 73), none⟩,
⟨(some 75), .call (.k (.fn (.func 81) [] [])) [(.t 74)], none⟩,
⟨(some 6), .mv (.t 75), none⟩] (fullB 4) false)
 (.seq
 (.seq
 (.reg (⟨(some 76), .fld 14 (.t 2), none⟩ ::
⟨(some 77), .load none (.t 76), none⟩ ::
⟨(some 78), .bin .eql (.t 77) (.k (.d (.int .u8 0))), none⟩ ::
⟨(some 79), .mv (.t 78), none⟩ ::
⟨(some 80), .fld 12 (.t 2), some (79, true)⟩ ::
⟨(some 81), .load (some 2) (.t 80), some (79, true)⟩ ::
⟨(some 82), .fld 0 (.t 2), some (79, true)⟩ ::
⟨(some 83), .load (some 2) (.t 82), some (79, true)⟩ ::
⟨(some 84), .eqv true [true, true] (.t 81) (.t 83), some (79, true)⟩ ::
⟨(some 85), .pick (.t 79) (.t 84) (.k (.d (.bool false))), none⟩ ::
⟨(some 86), .mv (.t 85), none⟩ ::
⟨(some 87), .fld 14 (.t 2), some (86, false)⟩ ::
⟨(some 88), .load none (.t 87), some (86, false)⟩ ::
⟨(some 89), .bin .neq (.t 88) (.k (.d (.int .u8 0))), some (86, false)⟩ ::
⟨(some 90), .mv (.t 89), some (86, false)⟩ ::
⟨(some 91), .load (some 29) (.t 2), some (90, true)⟩ ::
⟨(some 92), .fld 12 (.t 2), some (90, true)⟩ ::
⟨(some 93), .load (some 2) (.t 92), some (90, true)⟩ ::
⟨(some 94), .call (.k (.fn (.func 82) [] [])) [(.t 91), (.t 93)], some (90, true)⟩ ::
⟨(some 95), .not (.t 94), some (90, true)⟩ ::
⟨(some 96), .pick (.t 90) (.t 95) (.k (.d (.bool false))), some (86, false)⟩ ::
⟨(some 97), .pick (.t 86) (.k (.d (.bool true))) (.t 96), none⟩ ::
⟨(some 98), .mv (.t 97), none⟩ ::
⟨(some 99), .mv (.t 6), some (98, false)⟩ ::
⟨(some 100), .call (.k (.fn (.func 83) [] [])) [(.t 99), (.k (.d (.int .u8 99)))], some (98, false)⟩ ::
⟨(some 101), .mv (.t 100), some (98, false)⟩ ::
⟨(some 102), .load (some 29) (.t 2), some (101, true)⟩ ::
⟨(some 103), .fld 15 (.t 2), some (101, true)⟩ ::
⟨(some 104), .load (some 2) (.t 103), some (101, true)⟩ ::
⟨(some 105), .call (.k (.fn (.func 82) [] [])) [(.t 102), (.t 104)], some (101, true)⟩ ::
⟨(some 106), .not (.t 105), some (101, true)⟩ ::
⟨(some 107), .pick (.t 101) (.t 106) (.k (.d (.bool false))), some (98, false)⟩ ::
⟨(some 108), .pick (.t 98) (.k (.d (.bool true))) (.t 107), none⟩ ::
⟨(some 109), .mv (.t 108), none⟩ ::
⟨(some 110), .mv (.t 6), some (109, false)⟩ ::
⟨(some 111), .call (.k (.fn (.func 83) [] [])) [(.t 110), (.k (.d (.int .u8 97)))], some (109, false)⟩ ::
⟨(some 112), .mv (.t 111), some (109, false)⟩ ::
⟨(some 113), .load (some 29) (.t 2), some (112, true)⟩ ::
⟨(some 114), .fld 21 (.t 2), some (112, true)⟩ ::
⟨(some 115), .load (some 2) (.t 114), some (112, true)⟩ ::
⟨(some 116), .call (.k (.fn (.func 82) [] [])) [(.t 113), (.t 115)], some (112, true)⟩ ::
⟨(some 117), .not (.t 116), some (112, true)⟩ ::
⟨(some 118), .pick (.t 112) (.t 117) (.k (.d (.bool false))), some (109, false)⟩ ::
⟨(some 119), .pick (.t 109) (.k (.d (.bool true))) (.t 118), none⟩ ::
⟨(some 120), .mv (.t 119), none⟩ ::
⟨(some 121), .mv (.t 6), some (120, false)⟩ ::
⟨(some 122), .call (.k (.fn (.func 83) [] [])) [(.t 121), (.k (.d (.int .u8 118)))], some (120, false)⟩ ::
⟨(some 123), .mv (.t 122), some (120, false)⟩ ::
⟨(some 124), .load (some 29) (.t 2), some (123, true)⟩ ::
⟨(some 125), .fld 23 (.t 2), some (123, true)⟩ ::
⟨(some 126), .load (some 2) (.t 125), some (123, true)⟩ ::
⟨(some 127), .call (.k (.fn (.func 82) [] [])) [(.t 124), (.t 126)], some (123, true)⟩ ::
⟨(some 128), .not (.t 127), some (123, true)⟩ ::
⟨(some 129), .pick (.t 123) (.t 128) (.k (.d (.bool false))), some (120, false)⟩ ::
⟨(some 130), .pick (.t 120) (.k (.d (.bool true))) (.t 129), none⟩ :: []) (fullB 55) false)
 (.cond (.t 130)
  (.seq
  (.reg [⟨(some 4), .mv (.k (.d (.int .i64 5))), none⟩] (fullB 1) false)
  .ret)
  .skip))
 (.seq
 (.seq
  (.reg (⟨(some 131), .mv (.t 6), none⟩ ::
⟨(some 132), .call (.k (.fn (.func 83) [] [])) [(.t 131), (.k (.d (.int .u8 116)))], none⟩ ::
⟨(some 133), .mv (.t 132), none⟩ ::
⟨(some 134), .fld 17 (.t 2), some (133, true)⟩ ::
⟨(some 135), .load none (.t 134), some (133, true)⟩ ::
⟨(some 136), .bin .eql (.t 135) (.k (.d (.int .u32 0))), some (133, true)⟩ ::
⟨(some 137), .mv (.t 136), some (133, true)⟩ ::
⟨(some 138), .fld 18 (.t 2), some (137, false)⟩ ::
⟨(some 139), .load none (.t 138), some (137, false)⟩ ::
⟨(some 140), .bin .lss (.t 139) (.k (.d (.int .u8 1))), some (137, false)⟩ ::
⟨(some 141), .pick (.t 137) (.k (.d (.bool true))) (.t 140), some (133, true)⟩ ::
⟨(some 142), .mv (.t 141), some (133, true)⟩ ::
⟨(some 143), .fld 18 (.t 2), some (142, false)⟩ ::
⟨(some 144), .load none (.t 143), some (142, false)⟩ ::
⟨(some 145), .bin .gtr (.t 144) (.k (.d (.int .u8 7))), some (142, false)⟩ ::
⟨(some 146), .pick (.t 142) (.k (.d (.bool true))) (.t 145), some (133, true)⟩ ::
⟨(some 147), .mv (.t 146), some (133, true)⟩ ::
⟨(some 148), .fld 19 (.t 2), some (147, false)⟩ ::
⟨(some 149), .load none (.t 148), some (147, false)⟩ ::
⟨(some 150), .bin .gtr (.t 149) (.k (.d (.int .u8 7))), some (147, false)⟩ ::
⟨(some 151), .pick (.t 147) (.k (.d (.bool true))) (.t 150), some (133, true)⟩ ::
⟨(some 152), .mv (.t 151), some (133, true)⟩ ::
⟨(some 153), .fld 20 (.t 2), some (152, false)⟩ ::
⟨(some 154), .load none (.t 153), some (152, false)⟩ ::
⟨(some 155), .bin .gtr (.t 154) (.k (.d (.int .u64 1099511627776))), some (152, false)⟩ ::
⟨(some 156), .pick (.t 152) (.k (.d (.bool true))) (.t 155), some (133, true)⟩ ::
⟨(some 157), .pick (.t 133) (.t 156) (.k (.d (.bool false))), none⟩ ::
⟨(some 158), .mv (.t 157), none⟩ ::
⟨(some 159), .mv (.t 6), some (158, false)⟩ ::
⟨(some 160), .call (.k (.fn (.func 83) [] [])) [(.t 159), (.k (.d (.int .u8 113)))], some (158, false)⟩ ::
⟨(some 161), .mv (.t 160), some (158, false)⟩ ::
⟨(some 162), .fld 26 (.t 2), some (161, true)⟩ ::
⟨(some 163), .load none (.t 162), some (161, true)⟩ ::
⟨(some 164), .bin .lss (.t 163) (.k (.d (.int .u32 1))), some (161, true)⟩ ::
⟨(some 165), .mv (.t 164), some (161, true)⟩ ::
⟨(some 166), .fld 26 (.t 2), some (165, false)⟩ ::
⟨(some 167), .load none (.t 166), some (165, false)⟩ ::
⟨(some 168), .bin .gtr (.t 167) (.k (.d (.int .u32 65535))), some (165, false)⟩ ::
⟨(some 169), .pick (.t 165) (.k (.d (.bool true))) (.t 168), some (161, true)⟩ ::
⟨(some 170), .pick (.t 161) (.t 169) (.k (.d (.bool false))), some (158, false)⟩ ::
⟨(some 171), .pick (.t 158) (.k (.d (.bool true))) (.t 170), none⟩ ::
⟨(some 172), .mv (.t 171), none⟩ ::
⟨(some 173), .fld 27 (.t 2), some (172, false)⟩ ::
⟨(some 174), .load none (.t 173), some (172, false)⟩ ::
⟨(some 175), .bin .gtr (.t 174) (.k (.d (.int .u32 16777215))), some (172, false)⟩ ::
⟨(some 176), .pick (.t 172) (.k (.d (.bool true))) (.t 175), none⟩ ::
⟨(some 177), .mv (.t 176), none⟩ ::
⟨(some 178), .mv (.t 6), some (177, false)⟩ ::
⟨(some 179), .call (.k (.fn (.func 83) [] [])) [(.t 178), (.k (.d (.int .u8 108)))], some (177, false)⟩ ::
⟨(some 180), .mv (.t 179), some (177, false)⟩ ::
⟨(some 181), .load (some 29) (.t 2), some (180, true)⟩ ::
⟨(some 182), .call (.k (.fn (.func 84) [] [])) [(.t 181)], some (180, true)⟩ ::
⟨(some 183), .not (.t 182), some (180, true)⟩ ::
⟨(some 184), .pick (.t 180) (.t 183) (.k (.d (.bool false))), some (177, false)⟩ ::
⟨(some 185), .pick (.t 177) (.k (.d (.bool true))) (.t 184), none⟩ :: []) (fullB 55) false)
  (.cond (.t 185)
  (.seq
  (.reg [⟨(some 4), .mv (.k (.d (.int .i64 5))), none⟩] (fullB 1) false)
  .ret)
  .skip))
 (.seq
  (.reg [⟨(some 4), .mv (.k (.d (.int .i64 0))), none⟩] (fullB 1) false)
  .ret))))))))
def rv : List RV := [.tmp 4]
theorem c : cK Try.prog Try.f36.ntmps (Try.f36.body.getD .ret) = some s := by kernel_rfl
theorem b : Try.f36.body = some (Try.f36.body.getD .ret) := by kernel_rfl
theorem r : cRV Try.prog Try.f36.results.toList = some rv := by kernel_rfl
theorem ca : Callable Try.prog 36 = true := by kernel_rfl
theorem enter {args : List SV} {F : Hp} {k nk : Nat} {Q : SV → Hp → Prop} (hargs : SV.oks (fun n => decide (n < k)) args = true) (hF : F.ok (fun n => decide (n < k)) = true) (hN : args.length ≤ 186)
    (h : SW Try.prog 186 k s ⟨argE 0 args, F, k⟩ fun e st' => match e with | .normal => Fin k nk rv Q st' | .ret => Fin k nk rv Q st' | _ => False) : SB Try.prog 36 args F k nk Q :=
  SB.of_body Try.func36 b c r ca hargs hF hN h
end ref05_Check
namespace ref10_one
abbrev f : Nat := 37
def s : SCo := (.seq
(.reg [⟨(some 3), .box 41 (.t 1), none⟩,
⟨(some 4), .mv (.k (.d (.bool false))), none⟩] (fullB 2) false)
(.seq
(.seq
(.reg (⟨(some 7), .mv (.t 0), none⟩ ::
⟨(some 8), .fld 0 (.t 3), none⟩ ::
⟨(some 9), .load (some 2) (.t 8), none⟩ ::
⟨(some 10), .call (.k (.fn (.func 85) [] [])) [(.t 7), (.t 9)], none⟩ ::
⟨(some 11), .bin .neq (.t 10) (.k (.d (.int .i64 1))), none⟩ ::
⟨(some 12), .mv (.t 11), none⟩ ::
⟨(some 13), .fld 0 (.t 3), some (12, false)⟩ ::
⟨(some 14), .fld 1 (.t 13), some (12, false)⟩ ::
⟨(some 15), .load none (.t 14), some (12, false)⟩ ::
⟨(some 16), .bin .gtr (.t 15) (.k (.d (.int .u32 1))), some (12, false)⟩ ::
⟨(some 17), .mv (.t 16), some (12, false)⟩ ::
⟨(some 18), .mv (.t 0), some (17, true)⟩ ::
⟨(some 19), .fld 0 (.t 3), some (17, true)⟩ ::
⟨(some 20), .fld 0 (.t 19), some (17, true)⟩ ::
⟨(some 21), .load none (.t 20), some (17, true)⟩ ::
⟨(some 22), .fld 0 (.t 3), some (17, true)⟩ ::
⟨(some 23), .fld 1 (.t 22), some (17, true)⟩ ::
⟨(some 24), .load none (.t 23), some (17, true)⟩ ::
⟨(some 25), .bin .sub (.t 24) (.k (.d (.int .u32 1))), some (17, true)⟩ ::
⟨(some 26), .bld [(.d (.int .u8 0)), (.d (.int .u32 0))] [(0, 1, (.t 21)), (1, 1, (.t 25))], some (17, true)⟩ ::
⟨(some 27), .call (.k (.fn (.func 85) [] [])) [(.t 18), (.t 26)], some (17, true)⟩ ::
⟨(some 28), .bin .neq (.t 27) (.k (.d (.int .i64 1))), some (17, true)⟩ ::
⟨(some 29), .pick (.t 17) (.t 28) (.k (.d (.bool false))), some (12, false)⟩ ::
⟨(some 30), .pick (.t 12) (.k (.d (.bool true))) (.t 29), none⟩ :: []) (fullB 24) false)
(.cond (.t 30)
 (.seq
 (.reg [⟨(some 4), .mv (.k (.d (.bool false))), none⟩] (fullB 1) false)
 .ret)
 .skip))
(.seq
(.seq
 (.reg [⟨(some 5), .mv (.k (.d (.int .i64 0))), none⟩] (fullB 1) false)
 (.block 0
 (.loop
 (.seq
 (.seq
  (.reg [⟨(some 31), .mv (.t 5), none⟩,
⟨(some 32), .bin .lss (.t 31) (.k (.d (.int .i64 8))), none⟩] (fullB 2) false)
  (.cond (.t 32)
  .skip
  (.exit 0)))
 (.seq
  (.block 1
  (.seq
  (.reg (⟨(some 35), .mv (.t 5), none⟩ ::
⟨(some 36), .fld 2 (.t 3), none⟩ ::
⟨(some 37), .idxA 8 1 (.t 36) (.t 35), none⟩ ::
⟨(some 38), .load none (.t 37), none⟩ ::
⟨(some 39), .bin .gtr (.t 38) (.k (.d (.int .u32 0))), none⟩ ::
⟨(some 40), .mv (.t 39), none⟩ ::
⟨(some 41), .mv (.t 0), some (40, true)⟩ ::
⟨(some 42), .mv (.t 5), some (40, true)⟩ ::
⟨(some 43), .conv .u8 (.t 42), some (40, true)⟩ ::
⟨(some 44), .mv (.t 5), some (40, true)⟩ ::
⟨(some 45), .fld 2 (.t 3), some (40, true)⟩ ::
⟨(some 46), .idxA 8 1 (.t 45) (.t 44), some (40, true)⟩ ::
⟨(some 47), .load none (.t 46), some (40, true)⟩ ::
⟨(some 48), .bld [(.d (.int .u8 0)), (.d (.int .u32 0))] [(0, 1, (.t 43)), (1, 1, (.t 47))], some (40, true)⟩ ::
⟨(some 49), .call (.k (.fn (.func 85) [] [])) [(.t 41), (.t 48)], some (40, true)⟩ ::
⟨(some 50), .bin .neq (.t 49) (.k (.d (.int .i64 1))), some (40, true)⟩ ::
⟨(some 51), .pick (.t 40) (.t 50) (.k (.d (.bool false))), none⟩ :: []) (fullB 17) false)
  (.cond (.t 51)
  (.seq
   (.reg [⟨(some 4), .mv (.k (.d (.bool false))), none⟩] (fullB 1) false)
   .ret)
  .skip)))
  (.reg [⟨(some 33), .mv (.t 5), none⟩,
⟨(some 34), .bin .add (.t 33) (.k (.d (.int .i64 1))), none⟩,
⟨(some 5), .mv (.t 34), none⟩] (fullB 3) false))))))
(.seq
 (.seq
 (.reg [⟨(some 6), .mv (.k (.d (.int .i64 0))), none⟩] (fullB 1) false)
 (.block 2
 (.loop
 (.seq
  (.seq
  (.reg [⟨(some 52), .mv (.t 6), none⟩,
⟨(some 53), .mv (.t 0), none⟩,
⟨(some 54), .len (.t 53), none⟩,
⟨(some 55), .bin .lss (.t 52) (.t 54), none⟩] (fullB 4) false)
  (.cond (.t 55)
  .skip
  (.exit 2)))
  (.seq
  (.block 3
  (.seq
  (.reg (⟨(some 58), .mv (.t 0), none⟩ ::
⟨(some 59), .mv (.t 6), none⟩ ::
⟨(some 60), .idxS 29 (.t 58) (.t 59), none⟩ ::
⟨(some 61), .load (some 29) (.t 60), none⟩ ::
⟨(some 62), .load (some 29) (.t 3), none⟩ ::
⟨(some 63), .call (.k (.fn (.func 86) [] [])) [(.t 61), (.t 62)], none⟩ ::
⟨(some 64), .mv (.t 63), none⟩ ::
⟨(some 65), .mv (.t 0), some (64, true)⟩ ::
⟨(some 66), .mv (.t 6), some (64, true)⟩ ::
⟨(some 67), .idxS 29 (.t 65) (.t 66), some (64, true)⟩ ::
⟨(some 68), .fld 10 (.t 67), some (64, true)⟩ ::
⟨(some 69), .load none (.t 68), some (64, true)⟩ ::
⟨(some 70), .fld 10 (.t 3), some (64, true)⟩ ::
⟨(some 71), .load none (.t 70), some (64, true)⟩ ::
⟨(some 72), .bin .geq (.t 69) (.t 71), some (64, true)⟩ ::
⟨(some 73), .mv (.t 72), some (64, true)⟩ ::
⟨(some 74), .fld 2 (.t 3), some (73, false)⟩ ::
⟨(some 75), .load (some 8) (.t 74), some (73, false)⟩ ::
⟨(some 76), .mv (.t 0), some (73, false)⟩ ::
⟨(some 77), .mv (.t 6), some (73, false)⟩ ::
⟨(some 78), .idxS 29 (.t 76) (.t 77), some (73, false)⟩ ::
⟨(some 79), .fld 2 (.t 78), some (73, false)⟩ ::
⟨(some 80), .load (some 8) (.t 79), some (73, false)⟩ ::
⟨(some 81), .call (.k (.fn (.func 18) [] [])) [(.t 75), (.t 80)], some (73, false)⟩ ::
⟨(some 82), .not (.t 81), some (73, false)⟩ ::
⟨(some 83), .pick (.t 73) (.k (.d (.bool true))) (.t 82), some (64, true)⟩ ::
⟨(some 84), .pick (.t 64) (.t 83) (.k (.d (.bool false))), none⟩ :: []) (0 ::
0 ::
3 ::
7 ::
0 ::
31 ::
63 ::
127 ::
127 ::
511 ::
1023 ::
2047 ::
127 ::
4223 ::
16383 ::
32767 ::
65535 ::
131071 ::
65535 ::
65535 ::
851967 ::
1900543 ::
3997695 ::
8388607 ::
16777215 ::
33554431 ::
67108863 :: []) true)
  (.cond (.t 84)
   (.seq
   (.reg [⟨(some 4), .mv (.k (.d (.bool false))), none⟩] (fullB 1) false)
   .ret)
   .skip)))
  (.reg [⟨(some 56), .mv (.t 6), none⟩,
⟨(some 57), .bin .add (.t 56) (.k (.d (.int .i64 1))), none⟩,
⟨(some 6), .mv (.t 57), none⟩] (fullB 3) false))))))
 (.seq
 (.reg [⟨(some 4), .mv (.k (.d (.bool true))), none⟩] (fullB 1) false)
 .ret)))))
def rv : List RV := [.tmp 4]
theorem c : cK Try.prog Try.f37.ntmps (Try.f37.body.getD .ret) = some s := by kernel_rfl
theorem b : Try.f37.body = some (Try.f37.body.getD .ret) := by kernel_rfl
theorem r : cRV Try.prog Try.f37.results.toList = some rv := by kernel_rfl
theorem ca : Callable Try.prog 37 = true := by kernel_rfl
theorem enter {args : List SV} {F : Hp} {k nk : Nat} {Q : SV → Hp → Prop} (hargs : SV.oks (fun n => decide (n < k)) args = true) (hF : F.ok (fun n => decide (n < k)) = true) (hN : args.length ≤ 85)
    (h : SW Try.prog 85 k s ⟨argE 0 args, F, k⟩ fun e st' => match e with | .normal => Fin k nk rv Q st' | .ret => Fin k nk rv Q st' | _ => False) : SB Try.prog 37 args F k nk Q :=
  SB.of_body Try.func37 b c r ca hargs hF hN h
end ref10_one
namespace stable_Tracker_none
end stable_Tracker_none
namespace stable_Tracker_may
end stable_Tracker_may
namespace vector_Above
end vector_Above
namespace stable_Tracker_settle
end stable_Tracker_settle
namespace law12_v
end law12_v
namespace vector_Meet
end vector_Meet
namespace ref03_May
abbrev f : Nat := 44
def s : SCo := (.seq
(.reg [⟨(some 1), .box 37 (.t 0), none⟩,
⟨(some 2), .mv (.k (.d (.bool false))), none⟩] (fullB 2) false)
(.seq
(.reg [⟨(some 3), .fld 0 (.t 1), none⟩,
⟨(some 4), .load none (.t 3), none⟩,
⟨(some 5), .bin .leq (.t 4) (.k (.d (.int .u8 7))), none⟩,
⟨(some 6), .mv (.t 5), none⟩,
⟨(some 7), .fld 1 (.t 1), some (6, true)⟩,
⟨(some 8), .load none (.t 7), some (6, true)⟩,
⟨(some 9), .bin .geq (.t 8) (.k (.d (.int .u32 1))), some (6, true)⟩,
⟨(some 10), .pick (.t 6) (.t 9) (.k (.d (.bool false))), none⟩,
⟨(some 2), .mv (.t 10), none⟩] (fullB 9) false)
.ret))
def rv : List RV := [.tmp 2]
theorem c : cK Try.prog Try.f44.ntmps (Try.f44.body.getD .ret) = some s := by kernel_rfl
theorem b : Try.f44.body = some (Try.f44.body.getD .ret) := by kernel_rfl
theorem r : cRV Try.prog Try.f44.results.toList = some rv := by kernel_rfl
theorem ca : Callable Try.prog 44 = true := by kernel_rfl
theorem enter {args : List SV} {F : Hp} {k nk : Nat} {Q : SV → Hp → Prop} (hargs : SV.oks (fun n => decide (n < k)) args = true) (hF : F.ok (fun n => decide (n < k)) = true) (hN : args.length ≤ 11)
    (h : SW Try.prog 11 k s ⟨argE 0 args, F, k⟩ fun e st' => match e with | .normal => Fin k nk rv Q st' | .ret => Fin k nk rv Q st' | _ => False) : SB Try.prog 44 args F k nk Q :=
  SB.of_body Try.func44 b c r ca hargs hF hN h
end ref03_May
namespace law16_b
end law16_b
namespace law16_g
end law16_g
namespace law16_a
end law16_a
namespace tree_Tree_Above
abbrev f : Nat := 48
def s : SCo := (.seq
(.reg [⟨(some 4), .box 37 (.t 1), none⟩,
⟨(some 5), .box 37 (.t 2), none⟩,
⟨(some 6), .alloc 4 [(.d (.bool false))], none⟩] (fullB 3) false)
(.seq
(.seq
(.reg [⟨(some 8), .mv (.t 0), none⟩,
⟨(some 9), .call (.k (.fn (.func 56) [] [])) [(.t 8)], none⟩,
⟨(some 10), .mv (.t 9), none⟩,
⟨(some 11), .load (some 2) (.t 4), some (10, false)⟩,
⟨(some 12), .load (some 2) (.t 5), some (10, false)⟩,
⟨(some 13), .eqv false [true, true] (.t 11) (.t 12), some (10, false)⟩,
⟨(some 14), .pick (.t 10) (.k (.d (.bool true))) (.t 13), none⟩] (fullB 7) false)
(.cond (.t 14)
 (.seq
 (.reg [⟨none, .store 1 (.t 6) (.k (.d (.bool false))), none⟩] (fullB 1) false)
 .ret)
 .skip))
(.seq
(.seq
 (.reg [⟨(some 15), .mv (.t 0), none⟩,
⟨(some 16), .load (some 2) (.t 5), none⟩,
⟨(some 17), .call (.k (.fn (.func 57) [] [])) [(.t 15), (.t 16)], none⟩] (fullB 3) false)
 (.block 0
 (.rfun (.t 17) [18]
 (.reg [⟨(some 7), .alloc 51 [(.d (.int .u8 0)), (.d (.int .u32 0)), (.d (.int .u8 0)), (.d (.int .u32 0)), (.d (.int .u8 0)), (.d (.int .u32 0)), (.d (.int .u32 0)), (.d (.int .u8 0)), (.d (.int .u8 0)), (.d (.int .u64 0)), (.d (.int .i64 0))], none⟩,
⟨none, .store 11 (.t 7) (.t 18), none⟩] (fullB 2) false)
 (.block 1
 (.seq
  (.reg [⟨(some 19), .fld 0 (.t 7), none⟩,
⟨(some 20), .load (some 2) (.t 19), none⟩,
⟨(some 21), .load (some 2) (.t 4), none⟩,
⟨(some 22), .eqv false [true, true] (.t 20) (.t 21), none⟩] (fullB 4) false)
  (.cond (.t 22)
  (.seq
  (.reg [⟨none, .store 1 (.t 6) (.k (.d (.bool true))), none⟩] (fullB 1) false)
  .ret)
  .skip))))))
(.seq
 (.reg [⟨none, .store 1 (.t 6) (.k (.d (.bool false))), none⟩] (fullB 1) false)
 .ret))))
def rv : List RV := [.cell 6 none]
theorem c : cK Try.prog Try.f48.ntmps (Try.f48.body.getD .ret) = some s := by kernel_rfl
theorem b : Try.f48.body = some (Try.f48.body.getD .ret) := by kernel_rfl
theorem r : cRV Try.prog Try.f48.results.toList = some rv := by kernel_rfl
theorem ca : Callable Try.prog 48 = true := by kernel_rfl
theorem enter {args : List SV} {F : Hp} {k nk : Nat} {Q : SV → Hp → Prop} (hargs : SV.oks (fun n => decide (n < k)) args = true) (hF : F.ok (fun n => decide (n < k)) = true) (hN : args.length ≤ 23)
    (h : SW Try.prog 23 k s ⟨argE 0 args, F, k⟩ fun e st' => match e with | .normal => Fin k nk rv Q st' | .ret => Fin k nk rv Q st' | _ => False) : SB Try.prog 48 args F k nk Q :=
  SB.of_body Try.func48 b c r ca hargs hF hN h
end tree_Tree_Above
namespace tree_Tree_Why
abbrev f : Nat := 49
def s : SCo := (.seq
(.reg [⟨(some 2), .box 48 (.t 0), none⟩,
⟨(some 3), .box 41 (.t 1), none⟩,
⟨(some 4), .mv (.k (.d (.int .i64 0))), none⟩] (fullB 3) false)
(.seq
(.seq
(.reg [⟨(some 9), .load none (.t 2), none⟩,
⟨(some 10), .call (.k (.fn (.func 56) [] [])) [(.t 9)], none⟩] (fullB 2) false)
(.cond (.t 10)
 (.seq
 (.reg [⟨(some 4), .mv (.k (.d (.int .i64 1))), none⟩] (fullB 1) false)
 .ret)
 .skip))
(.seq
(.reg [⟨(some 12), .load none (.t 2), none⟩,
⟨(some 13), .nilc (.t 12), none⟩,
⟨(some 14), .fld 0 (.t 13), none⟩,
⟨(some 15), .load none (.t 14), none⟩,
⟨(some 16), .fld 15 (.t 3), none⟩,
⟨(some 17), .load (some 2) (.t 16), none⟩,
⟨(some 18), .look [true, true] true (.agg [(.d (.int .u8 0)), (.d (.int .u32 0)), (.d (.int .u8 0)), (.d (.int .u32 0)), (.d (.int .u8 0)), (.d (.int .u32 0)), (.d (.int .u32 0)), (.d (.int .u8 0)), (.d (.int .u8 0)), (.d (.int .u64 0)), (.d (.int .i64 0))]) (.t 15) (.t 17) true, none⟩,
⟨(some 11), .mv (.t 18), none⟩,
⟨(some 19), .ext 0 (.t 11), none⟩,
⟨(some 20), .ext 1 (.t 11), none⟩,
⟨(some 5), .alloc 51 [(.d (.int .u8 0)), (.d (.int .u32 0)), (.d (.int .u8 0)), (.d (.int .u32 0)), (.d (.int .u8 0)), (.d (.int .u32 0)), (.d (.int .u32 0)), (.d (.int .u8 0)), (.d (.int .u8 0)), (.d (.int .u64 0)), (.d (.int .i64 0))], none⟩,
⟨(some 6), .alloc 4 [(.d (.bool false))], none⟩,
⟨none, .store 11 (.t 5) (.t 19), none⟩,
⟨none, .store 1 (.t 6) (.t 20), none⟩] [0,
1,
3,
7,
0,
16,
63,
127,
255,
255,
0,
0,
3583,
8191] true)
(.seq
 (.seq
 (.reg [⟨(some 21), .mkf (.func 92) [] [(.t 3)], none⟩,
⟨(some 22), .bld [(.d (.int .i64 0)), (.d .nilf)] [(0, 1, (.k (.d (.int .i64 2)))), (1, 1, (.t 21))], none⟩,
⟨(some 23), .mkf (.func 93) [] [(.t 6), (.t 5), (.t 3), (.t 2)], none⟩,
⟨(some 24), .bld [(.d (.int .i64 0)), (.d .nilf)] [(0, 1, (.k (.d (.int .i64 272)))), (1, 1, (.t 23))], none⟩,
⟨(some 25), .mkf (.func 95) [] [(.t 5), (.t 3)], none⟩,
⟨(some 26), .bld [(.d (.int .i64 0)), (.d .nilf)] [(0, 1, (.k (.d (.int .i64 273)))), (1, 1, (.t 25))], none⟩,
⟨(some 27), .mkf (.func 96) [] [(.t 5)], none⟩,
⟨(some 28), .bld [(.d (.int .i64 0)), (.d .nilf)] [(0, 1, (.k (.d (.int .i64 274)))), (1, 1, (.t 27))], none⟩,
⟨(some 29), .mkf (.func 97) [] [(.t 3), (.t 5)], none⟩,
⟨(some 30), .bld [(.d (.int .i64 0)), (.d .nilf)] [(0, 1, (.k (.d (.int .i64 275)))), (1, 1, (.t 29))], none⟩,
⟨(some 31), .bld [(.d (.int .i64 0)), (.d .nilf), (.d (.int .i64 0)), (.d .nilf), (.d (.int .i64 0)), (.d .nilf), (.d (.int .i64 0)), (.d .nilf), (.d (.int .i64 0)), (.d .nilf)] [(0, 2, (.t 22)), (2, 2, (.t 24)), (4, 2, (.t 26)), (6, 2, (.t 28)), (8, 2, (.t 30))], none⟩,
⟨(some 32), .mv (.k (.d (.int .i64 0))), none⟩] (fullB 12) false)
 (.block 0
 (.loop
 (.seq
  (.reg [⟨(some 33), .bin .lss (.t 32) (.k (.d (.int .i64 5))), none⟩] (fullB 1) false)
  (.seq
  (.cond (.t 33)
  .skip
  (.exit 0))
  (.seq
  (.block 1
  (.seq
   (.reg [⟨(some 34), .index 5 2 true (.t 31) (.t 32), none⟩,
⟨(some 8), .alloc 141 [(.d (.int .i64 0)), (.d .nilf)], none⟩,
⟨none, .store 2 (.t 8) (.t 34), none⟩] (fullB 3) false)
   (.seq
   (.reg [⟨(some 35), .fld 1 (.t 8), none⟩,
⟨(some 36), .load none (.t 35), none⟩,
⟨(some 37), .call (.t 36) [], none⟩] (fullB 3) false)
   (.cond (.t 37)
   (.seq
   (.reg [⟨(some 38), .fld 0 (.t 8), none⟩,
⟨(some 39), .load none (.t 38), none⟩,
⟨(some 4), .mv (.t 39), none⟩] (fullB 3) false)
   .ret)
   .skip))))
  (.reg [⟨(some 40), .bin .add (.t 32) (.k (.d (.int .i64 1))), none⟩,
⟨(some 32), .mv (.t 40), none⟩] (fullB 2) false)))))))
 (.seq
 (.reg [⟨(some 4), .mv (.k (.d (.int .i64 0))), none⟩] (fullB 1) false)
 .ret)))))
def rv : List RV := [.tmp 4]
theorem c : cK Try.prog Try.f49.ntmps (Try.f49.body.getD .ret) = some s := by kernel_rfl
theorem b : Try.f49.body = some (Try.f49.body.getD .ret) := by kernel_rfl
theorem r : cRV Try.prog Try.f49.results.toList = some rv := by kernel_rfl
theorem ca : Callable Try.prog 49 = true := by kernel_rfl
theorem enter {args : List SV} {F : Hp} {k nk : Nat} {Q : SV → Hp → Prop} (hargs : SV.oks (fun n => decide (n < k)) args = true) (hF : F.ok (fun n => decide (n < k)) = true) (hN : args.length ≤ 41)
    (h : SW Try.prog 41 k s ⟨argE 0 args, F, k⟩ fun e st' => match e with | .normal => Fin k nk rv Q st' | .ret => Fin k nk rv Q st' | _ => False) : SB Try.prog 49 args F k nk Q :=
  SB.of_body Try.func49 b c r ca hargs hF hN h
end tree_Tree_Why
namespace ref10_Find
end ref10_Find
namespace ref10_Compare
end ref10_Compare
namespace slices_DeleteFunc_Lapi_Op_api_Op
abbrev f : Nat := 52
def s : SCo := (.seq
(.reg [⟨(some 4), .mv (.k (.d .nils)), none⟩] (fullB 1) false)
(.seq
(.reg [⟨(some 8), .mv (.t 0), none⟩,
⟨(some 9), .mv (.t 1), none⟩,
⟨(some 10), .call (.k (.fn (.func 99) [] [])) [(.t 8), (.t 9)], none⟩,
⟨(some 5), .mv (.t 10), none⟩] (fullB 4) false)
(.seq
(.seq
 (.reg [⟨(some 11), .mv (.t 5), none⟩,
⟨(some 12), .bin .eql (.t 11) (.k (.d (.int .i64 (-1)))), none⟩] (fullB 2) false)
 (.cond (.t 12)
 (.seq
 (.reg [⟨(some 13), .mv (.t 0), none⟩,
⟨(some 4), .mv (.t 13), none⟩] (fullB 2) false)
 .ret)
 .skip))
(.seq
 (.seq
 (.reg [⟨(some 14), .mv (.t 5), none⟩,
⟨(some 15), .bin .add (.t 14) (.k (.d (.int .i64 1))), none⟩,
⟨(some 6), .mv (.t 15), none⟩] (fullB 3) false)
 (.block 0
 (.loop
 (.seq
  (.seq
  (.reg [⟨(some 16), .mv (.t 6), none⟩,
⟨(some 17), .mv (.t 0), none⟩,
⟨(some 18), .len (.t 17), none⟩,
⟨(some 19), .bin .lss (.t 16) (.t 18), none⟩] (fullB 4) false)
  (.cond (.t 19)
  .skip
  (.exit 0)))
  (.seq
  (.block 1
  (.seq
  (.reg [⟨(some 22), .mv (.t 0), none⟩,
⟨(some 23), .mv (.t 6), none⟩,
⟨(some 24), .idxS 29 (.t 22) (.t 23), none⟩,
⟨(some 25), .load (some 29) (.t 24), none⟩,
⟨(some 7), .alloc 41 [(.d (.int .u8 0)), (.d (.int .u32 0)), (.d (.int .u32 0)), (.d (.int .u32 0)), (.d (.int .u32 0)), (.d (.int .u32 0)), (.d (.int .u32 0)), (.d (.int .u32 0)), (.d (.int .u32 0)), (.d (.int .u32 0)), (.d (.int .u64 0)), (.d (.int .u32 0)), (.d (.int .u8 0)), (.d (.int .u32 0)), (.d (.int .u8 0)), (.d (.int .u8 0)), (.d (.int .u32 0)), (.d (.int .u32 0)), (.d (.int .u8 0)), (.d (.int .u8 0)), (.d (.int .u64 0)), (.d (.int .u8 0)), (.d (.int .u32 0)), (.d (.int .u8 0)), (.d (.int .u32 0)), (.d (.int .u32 0)), (.d (.int .u32 0)), (.d (.int .u32 0)), (.d .nils)], none⟩,
⟨none, .store 29 (.t 7) (.t 25), none⟩] (fullB 6) false)
  (.seq
   (.reg [⟨(some 26), .mv (.t 1), none⟩,
⟨(some 27), .load (some 29) (.t 7), none⟩,
⟨(some 28), .call (.t 26) [(.t 27)], none⟩,
⟨(some 29), .not (.t 28), none⟩] (fullB 4) false)
   (.cond (.t 29)
   (.seq
   (.reg [⟨(some 30), .mv (.t 0), none⟩,
⟨(some 31), .mv (.t 5), none⟩,
⟨(some 32), .load (some 29) (.t 7), none⟩,
⟨(some 33), .idxS 29 (.t 30) (.t 31), none⟩,
⟨none, .store 29 (.t 33) (.t 32), none⟩] (fullB 5) false)
   (.reg [⟨(some 34), .mv (.t 5), none⟩,
⟨(some 35), .bin .add (.t 34) (.k (.d (.int .i64 1))), none⟩,
⟨(some 5), .mv (.t 35), none⟩] (fullB 3) false))
   .skip))))
  (.reg [⟨(some 20), .mv (.t 6), none⟩,
⟨(some 21), .bin .add (.t 20) (.k (.d (.int .i64 1))), none⟩,
⟨(some 6), .mv (.t 21), none⟩] (fullB 3) false))))))
 (.seq
 (.reg [⟨(some 36), .mv (.t 0), none⟩,
⟨(some 37), .mv (.t 5), none⟩,
⟨(some 38), .slc 29 (.t 36) (some (.t 37)) none, none⟩,
⟨none, .clr 29 [(.d (.int .u8 0)), (.d (.int .u32 0)), (.d (.int .u32 0)), (.d (.int .u32 0)), (.d (.int .u32 0)), (.d (.int .u32 0)), (.d (.int .u32 0)), (.d (.int .u32 0)), (.d (.int .u32 0)), (.d (.int .u32 0)), (.d (.int .u64 0)), (.d (.int .u32 0)), (.d (.int .u8 0)), (.d (.int .u32 0)), (.d (.int .u8 0)), (.d (.int .u8 0)), (.d (.int .u32 0)), (.d (.int .u32 0)), (.d (.int .u8 0)), (.d (.int .u8 0)), (.d (.int .u64 0)), (.d (.int .u8 0)), (.d (.int .u32 0)), (.d (.int .u8 0)), (.d (.int .u32 0)), (.d (.int .u32 0)), (.d (.int .u32 0)), (.d (.int .u32 0)), (.d .nils)] (.t 38), none⟩] (fullB 4) false)
 (.seq
 (.reg [⟨(some 39), .mv (.t 0), none⟩,
⟨(some 40), .mv (.t 5), none⟩,
⟨(some 41), .slc 29 (.t 39) none (some (.t 40)), none⟩,
⟨(some 4), .mv (.t 41), none⟩] (fullB 4) false)
 .ret))))))
def rv : List RV := [.tmp 4]
theorem c : cK Try.prog Try.f52.ntmps (Try.f52.body.getD .ret) = some s := by kernel_rfl
theorem b : Try.f52.body = some (Try.f52.body.getD .ret) := by kernel_rfl
theorem r : cRV Try.prog Try.f52.results.toList = some rv := by kernel_rfl
theorem ca : Callable Try.prog 52 = true := by kernel_rfl
theorem enter {args : List SV} {F : Hp} {k nk : Nat} {Q : SV → Hp → Prop} (hargs : SV.oks (fun n => decide (n < k)) args = true) (hF : F.ok (fun n => decide (n < k)) = true) (hN : args.length ≤ 42)
    (h : SW Try.prog 42 k s ⟨argE 0 args, F, k⟩ fun e st' => match e with | .normal => Fin k nk rv Q st' | .ret => Fin k nk rv Q st' | _ => False) : SB Try.prog 52 args F k nk Q :=
  SB.of_body Try.func52 b c r ca hargs hF hN h
end slices_DeleteFunc_Lapi_Op_api_Op
namespace slices_Clone_Lapi_Op_api_Op
abbrev f : Nat := 53
def s : SCo := (.seq
(.reg [⟨(some 2), .mv (.k (.d .nils)), none⟩] (fullB 1) false)
(.seq
(.seq
(.reg [⟨(some 3), .mv (.t 0), none⟩,
⟨(some 4), .eqnil false 3 (.t 3), none⟩] (fullB 2) false)
(.cond (.t 4)
 (.seq
 (.reg [⟨(some 2), .mv (.k (.d .nils)), none⟩] (fullB 1) false)
 .ret)
 .skip))
(.seq
(.reg [⟨(some 5), .bsl 41 29 0 [] [], none⟩,
⟨(some 6), .mv (.t 0), none⟩,
⟨(some 7), .app 41 29 144 (.t 5) (.t 6), none⟩,
⟨(some 2), .mv (.t 7), none⟩] (fullB 4) false)
.ret)))
def rv : List RV := [.tmp 2]
theorem c : cK Try.prog Try.f53.ntmps (Try.f53.body.getD .ret) = some s := by kernel_rfl
theorem b : Try.f53.body = some (Try.f53.body.getD .ret) := by kernel_rfl
theorem r : cRV Try.prog Try.f53.results.toList = some rv := by kernel_rfl
theorem ca : Callable Try.prog 53 = true := by kernel_rfl
theorem enter {args : List SV} {F : Hp} {k nk : Nat} {Q : SV → Hp → Prop} (hargs : SV.oks (fun n => decide (n < k)) args = true) (hF : F.ok (fun n => decide (n < k)) = true) (hN : args.length ≤ 8)
    (h : SW Try.prog 8 k s ⟨argE 0 args, F, k⟩ fun e st' => match e with | .normal => Fin k nk rv Q st' | .ret => Fin k nk rv Q st' | _ => False) : SB Try.prog 53 args F k nk Q :=
  SB.of_body Try.func53 b c r ca hargs hF hN h
end slices_Clone_Lapi_Op_api_Op
namespace tree_New_1
abbrev f : Nat := 54
def s : SCo := (.seq
(.reg [⟨(some 2), .box 41 (.t 0), none⟩,
⟨(some 3), .mv (.k (.d (.bool false))), none⟩] (fullB 2) false)
(.seq
(.reg [⟨(some 4), .load none (.t 1), none⟩,
⟨(some 5), .fld 0 (.t 2), none⟩,
⟨(some 6), .load (some 2) (.t 5), none⟩,
⟨(some 7), .look [true, true] true (.d (.int .i64 0)) (.t 4) (.t 6) false, none⟩,
⟨(some 8), .bin .add (.t 7) (.k (.d (.int .i64 1))), none⟩,
⟨(some 9), .mentr [true, true] true (.d (.int .i64 0)) (.t 4) (.t 6), none⟩,
⟨(some 10), .ext 1 (.t 9), none⟩,
⟨none, .mstor (.t 4) (.t 10) (.t 8), none⟩] [0,
0,
2,
7,
15,
7,
39,
127] true)
(.seq
(.reg [⟨(some 11), .load none (.t 1), none⟩,
⟨(some 12), .fld 0 (.t 2), none⟩,
⟨(some 13), .load (some 2) (.t 12), none⟩,
⟨(some 14), .look [true, true] true (.d (.int .i64 0)) (.t 11) (.t 13) false, none⟩,
⟨(some 15), .bin .gtr (.t 14) (.k (.d (.int .i64 1))), none⟩,
⟨(some 16), .mv (.t 15), none⟩,
⟨(some 17), .fld 14 (.t 2), some (16, false)⟩,
⟨(some 18), .load none (.t 17), some (16, false)⟩,
⟨(some 19), .bin .gtr (.t 18) (.k (.d (.int .u8 1))), some (16, false)⟩,
⟨(some 20), .pick (.t 16) (.k (.d (.bool true))) (.t 19), none⟩,
⟨(some 3), .mv (.t 20), none⟩] (fullB 11) false)
.ret)))
def rv : List RV := [.tmp 3]
theorem c : cK Try.prog Try.f54.ntmps (Try.f54.body.getD .ret) = some s := by kernel_rfl
theorem b : Try.f54.body = some (Try.f54.body.getD .ret) := by kernel_rfl
theorem r : cRV Try.prog Try.f54.results.toList = some rv := by kernel_rfl
theorem ca : Callable Try.prog 54 = true := by kernel_rfl
theorem enter {args : List SV} {F : Hp} {k nk : Nat} {Q : SV → Hp → Prop} (hargs : SV.oks (fun n => decide (n < k)) args = true) (hF : F.ok (fun n => decide (n < k)) = true) (hN : args.length ≤ 21)
    (h : SW Try.prog 21 k s ⟨argE 0 args, F, k⟩ fun e st' => match e with | .normal => Fin k nk rv Q st' | .ret => Fin k nk rv Q st' | _ => False) : SB Try.prog 54 args F k nk Q :=
  SB.of_body Try.func54 b c r ca hargs hF hN h
end tree_New_1
namespace tree_Tree_put
abbrev f : Nat := 55
def s : SCo := (.seq
(.reg [⟨(some 3), .box 41 (.t 1), none⟩,
⟨(some 4), .mv (.k (.d (.bool false))), none⟩] (fullB 2) false)
(.seq
(.reg [⟨(some 6), .fld 0 (.t 3), none⟩,
⟨(some 7), .load (some 2) (.t 6), none⟩,
⟨(some 8), .fld 0 (.t 3), none⟩,
⟨(some 9), .load (some 2) (.t 8), none⟩,
⟨(some 10), .fld 11 (.t 3), none⟩,
⟨(some 11), .load none (.t 10), none⟩,
⟨(some 12), .bld [(.d (.int .u8 0)), (.d (.int .u32 0)), (.d (.int .u8 0)), (.d (.int .u32 0)), (.d (.int .u8 0)), (.d (.int .u32 0)), (.d (.int .u32 0)), (.d (.int .u8 0)), (.d (.int .u8 0)), (.d (.int .u64 0)), (.d (.int .i64 0))] [(0, 2, (.t 7)), (2, 2, (.t 9)), (6, 1, (.t 11)), (7, 1, (.k (.d (.int .u8 7)))), (8, 1, (.k (.d (.int .u8 8)))), (9, 1, (.k (.d (.int .u64 1099511627776))))], none⟩,
⟨(some 5), .alloc 51 [(.d (.int .u8 0)), (.d (.int .u32 0)), (.d (.int .u8 0)), (.d (.int .u32 0)), (.d (.int .u8 0)), (.d (.int .u32 0)), (.d (.int .u32 0)), (.d (.int .u8 0)), (.d (.int .u8 0)), (.d (.int .u64 0)), (.d (.int .i64 0))], none⟩,
⟨none, .store 11 (.t 5) (.t 12), none⟩] (fullB 9) false)
(.seq
(.block 0
 (.seq
 (.reg (⟨(some 14), .fld 14 (.t 3), none⟩ ::
⟨(some 15), .load none (.t 14), none⟩ ::
⟨(some 16), .bin .eql (.t 15) (.k (.d (.int .u8 0))), none⟩ ::
⟨(some 17), .mv (.t 16), none⟩ ::
⟨(some 18), .fld 12 (.t 3), some (17, true)⟩ ::
⟨(some 19), .load (some 2) (.t 18), some (17, true)⟩ ::
⟨(some 20), .fld 0 (.t 3), some (17, true)⟩ ::
⟨(some 21), .load (some 2) (.t 20), some (17, true)⟩ ::
⟨(some 22), .eqv true [true, true] (.t 19) (.t 21), some (17, true)⟩ ::
⟨(some 23), .pick (.t 17) (.t 22) (.k (.d (.bool false))), none⟩ ::
⟨(some 24), .mv (.t 23), none⟩ ::
⟨(some 25), .fld 14 (.t 3), some (24, false)⟩ ::
⟨(some 26), .load none (.t 25), some (24, false)⟩ ::
⟨(some 27), .bin .eql (.t 26) (.k (.d (.int .u8 1))), some (24, false)⟩ ::
⟨(some 28), .mv (.t 27), some (24, false)⟩ ::
⟨(some 29), .mv (.t 0), some (28, true)⟩ ::
⟨(some 30), .load (some 29) (.t 3), some (28, true)⟩ ::
⟨(some 31), .call (.k (.fn (.func 49) [] [])) [(.t 29), (.t 30)], some (28, true)⟩ ::
⟨(some 32), .bin .neq (.t 31) (.k (.d (.int .i64 0))), some (28, true)⟩ ::
⟨(some 33), .pick (.t 28) (.t 32) (.k (.d (.bool false))), some (24, false)⟩ ::
⟨(some 34), .pick (.t 24) (.k (.d (.bool true))) (.t 33), none⟩ ::
⟨(some 13), .mv (.t 34), none⟩ :: []) (fullB 22) false)
 (.cond (.t 13)
 (.seq
 (.reg [⟨(some 4), .mv (.k (.d (.bool false))), none⟩] (fullB 1) false)
 .ret)
 (.seq
 (.reg [⟨(some 36), .fld 14 (.t 3), none⟩,
⟨(some 37), .load none (.t 36), none⟩,
⟨(some 38), .bin .eql (.t 37) (.k (.d (.int .u8 1))), none⟩,
⟨(some 35), .mv (.t 38), none⟩] (fullB 4) false)
 (.cond (.t 35)
  (.reg (⟨(some 39), .fld 0 (.t 3), none⟩ ::
⟨(some 40), .load (some 2) (.t 39), none⟩ ::
⟨(some 41), .fld 12 (.t 3), none⟩ ::
⟨(some 42), .load (some 2) (.t 41), none⟩ ::
⟨(some 43), .fld 15 (.t 3), none⟩ ::
⟨(some 44), .load (some 2) (.t 43), none⟩ ::
⟨(some 45), .fld 17 (.t 3), none⟩ ::
⟨(some 46), .load none (.t 45), none⟩ ::
⟨(some 47), .fld 18 (.t 3), none⟩ ::
⟨(some 48), .load none (.t 47), none⟩ ::
⟨(some 49), .fld 19 (.t 3), none⟩ ::
⟨(some 50), .load none (.t 49), none⟩ ::
⟨(some 51), .fld 20 (.t 3), none⟩ ::
⟨(some 52), .load none (.t 51), none⟩ ::
⟨(some 53), .mv (.t 0), none⟩ ::
⟨(some 54), .nilc (.t 53), none⟩ ::
⟨(some 55), .fld 0 (.t 54), none⟩ ::
⟨(some 56), .load none (.t 55), none⟩ ::
⟨(some 57), .fld 15 (.t 3), none⟩ ::
⟨(some 58), .load (some 2) (.t 57), none⟩ ::
⟨(some 59), .look [true, true] true (.agg [(.d (.int .u8 0)), (.d (.int .u32 0)), (.d (.int .u8 0)), (.d (.int .u32 0)), (.d (.int .u8 0)), (.d (.int .u32 0)), (.d (.int .u32 0)), (.d (.int .u8 0)), (.d (.int .u8 0)), (.d (.int .u64 0)), (.d (.int .i64 0))]) (.t 56) (.t 58) false, none⟩ ::
⟨(some 60), .field 10 none (.t 59), none⟩ ::
⟨(some 61), .bin .add (.t 60) (.k (.d (.int .i64 1))), none⟩ ::
⟨(some 62), .bld [(.d (.int .u8 0)), (.d (.int .u32 0)), (.d (.int .u8 0)), (.d (.int .u32 0)), (.d (.int .u8 0)), (.d (.int .u32 0)), (.d (.int .u32 0)), (.d (.int .u8 0)), (.d (.int .u8 0)), (.d (.int .u64 0)), (.d (.int .i64 0))] [(0, 2, (.t 40)), (2, 2, (.t 42)), (4, 2, (.t 44)), (6, 1, (.t 46)), (7, 1, (.t 48)), (8, 1, (.t 50)), (9, 1, (.t 52)), (10, 1, (.t 61))], none⟩ ::
⟨none, .store 11 (.t 5) (.t 62), none⟩ :: []) (0 ::
1 ::
0 ::
4 ::
0 ::
16 ::
0 ::
64 ::
0 ::
256 ::
0 ::
1024 ::
0 ::
4096 ::
0 ::
16384 ::
49152 ::
114688 ::
0 ::
262144 ::
1032192 ::
2080768 ::
4177920 ::
8388607 ::
16777215 :: []) true)
  .skip)))))
(.seq
 (.reg (⟨(some 63), .mv (.t 0), none⟩ ::
⟨(some 64), .nilc (.t 63), none⟩ ::
⟨(some 65), .fld 0 (.t 64), none⟩ ::
⟨(some 66), .load none (.t 65), none⟩ ::
⟨(some 67), .fld 0 (.t 3), none⟩ ::
⟨(some 68), .load (some 2) (.t 67), none⟩ ::
⟨(some 69), .mv (.t 0), none⟩ ::
⟨(some 70), .nilc (.t 69), none⟩ ::
⟨(some 71), .fld 1 (.t 70), none⟩ ::
⟨(some 72), .load none (.t 71), none⟩ ::
⟨(some 73), .fld 0 (.t 3), none⟩ ::
⟨(some 74), .load (some 2) (.t 73), none⟩ ::
⟨(some 75), .load (some 11) (.t 5), none⟩ ::
⟨(some 76), .load (some 29) (.t 3), none⟩ ::
⟨(some 77), .mentr [true, true] true (.agg [(.d (.int .u8 0)), (.d (.int .u32 0)), (.d (.int .u8 0)), (.d (.int .u32 0)), (.d (.int .u8 0)), (.d (.int .u32 0)), (.d (.int .u32 0)), (.d (.int .u8 0)), (.d (.int .u8 0)), (.d (.int .u64 0)), (.d (.int .i64 0))]) (.t 66) (.t 68), none⟩ ::
⟨(some 78), .ext 1 (.t 77), none⟩ ::
⟨none, .mstor (.t 66) (.t 78) (.t 75), none⟩ ::
⟨(some 79), .mentr [true, true] true (.agg [(.d (.int .u8 0)), (.d (.int .u32 0)), (.d (.int .u32 0)), (.d (.int .u32 0)), (.d (.int .u32 0)), (.d (.int .u32 0)), (.d (.int .u32 0)), (.d (.int .u32 0)), (.d (.int .u32 0)), (.d (.int .u32 0)), (.d (.int .u64 0)), (.d (.int .u32 0)), (.d (.int .u8 0)), (.d (.int .u32 0)), (.d (.int .u8 0)), (.d (.int .u8 0)), (.d (.int .u32 0)), (.d (.int .u32 0)), (.d (.int .u8 0)), (.d (.int .u8 0)), (.d (.int .u64 0)), (.d (.int .u8 0)), (.d (.int .u32 0)), (.d (.int .u8 0)), (.d (.int .u32 0)), (.d (.int .u32 0)), (.d (.int .u32 0)), (.d (.int .u32 0)), (.d .nils)]) (.t 72) (.t 74), none⟩ ::
⟨(some 80), .ext 1 (.t 79), none⟩ ::
⟨none, .mstor (.t 72) (.t 80) (.t 76), none⟩ :: []) (0 ::
1 ::
3 ::
7 ::
0 ::
16 ::
0 ::
64 ::
192 ::
448 ::
0 ::
1024 ::
0 ::
0 ::
1023 ::
17407 ::
54271 ::
122879 ::
253951 ::
524287 :: []) true)
 (.seq
 (.reg [⟨(some 4), .mv (.k (.d (.bool true))), none⟩] (fullB 1) false)
 .ret)))))
def rv : List RV := [.tmp 4]
theorem c : cK Try.prog Try.f55.ntmps (Try.f55.body.getD .ret) = some s := by kernel_rfl
theorem b : Try.f55.body = some (Try.f55.body.getD .ret) := by kernel_rfl
theorem r : cRV Try.prog Try.f55.results.toList = some rv := by kernel_rfl
theorem ca : Callable Try.prog 55 = true := by kernel_rfl
theorem enter {args : List SV} {F : Hp} {k nk : Nat} {Q : SV → Hp → Prop} (hargs : SV.oks (fun n => decide (n < k)) args = true) (hF : F.ok (fun n => decide (n < k)) = true) (hN : args.length ≤ 81)
    (h : SW Try.prog 81 k s ⟨argE 0 args, F, k⟩ fun e st' => match e with | .normal => Fin k nk rv Q st' | .ret => Fin k nk rv Q st' | _ => False) : SB Try.prog 55 args F k nk Q :=
  SB.of_body Try.func55 b c r ca hargs hF hN h
end tree_Tree_put
namespace tree_Tree_none
abbrev f : Nat := 56
def s : SCo := (.seq
(.reg [⟨(some 2), .mv (.k (.d (.bool false))), none⟩] (fullB 1) false)
(.seq
(.reg [⟨(some 3), .mv (.t 0), none⟩,
⟨(some 4), .eqnil false 0 (.t 3), none⟩,
⟨(some 5), .mv (.t 4), none⟩,
⟨(some 6), .mv (.t 0), some (5, false)⟩,
⟨(some 7), .nilc (.t 6), some (5, false)⟩,
⟨(some 8), .fld 0 (.t 7), some (5, false)⟩,
⟨(some 9), .load none (.t 8), some (5, false)⟩,
⟨(some 10), .eqnil false 1 (.t 9), some (5, false)⟩,
⟨(some 11), .pick (.t 5) (.k (.d (.bool true))) (.t 10), none⟩,
⟨(some 2), .mv (.t 11), none⟩] (fullB 10) false)
.ret))
def rv : List RV := [.tmp 2]
theorem c : cK Try.prog Try.f56.ntmps (Try.f56.body.getD .ret) = some s := by kernel_rfl
theorem b : Try.f56.body = some (Try.f56.body.getD .ret) := by kernel_rfl
theorem r : cRV Try.prog Try.f56.results.toList = some rv := by kernel_rfl
theorem ca : Callable Try.prog 56 = true := by kernel_rfl
theorem enter {args : List SV} {F : Hp} {k nk : Nat} {Q : SV → Hp → Prop} (hargs : SV.oks (fun n => decide (n < k)) args = true) (hF : F.ok (fun n => decide (n < k)) = true) (hN : args.length ≤ 12)
    (h : SW Try.prog 12 k s ⟨argE 0 args, F, k⟩ fun e st' => match e with | .normal => Fin k nk rv Q st' | .ret => Fin k nk rv Q st' | _ => False) : SB Try.prog 56 args F k nk Q :=
  SB.of_body Try.func56 b c r ca hargs hF hN h
end tree_Tree_none
namespace tree_Tree_up
abbrev f : Nat := 57
def s : SCo := (.seq
(.reg [⟨(some 2), .box 48 (.t 0), none⟩,
⟨(some 3), .box 37 (.t 1), none⟩,
⟨(some 4), .mv (.k (.d .nilf)), none⟩] (fullB 3) false)
(.seq
(.reg [⟨(some 5), .mkf (.func 100) [] [(.t 2), (.t 3)], none⟩,
⟨(some 4), .mv (.t 5), none⟩] (fullB 2) false)
.ret))
def rv : List RV := [.tmp 4]
theorem c : cK Try.prog Try.f57.ntmps (Try.f57.body.getD .ret) = some s := by kernel_rfl
theorem b : Try.f57.body = some (Try.f57.body.getD .ret) := by kernel_rfl
theorem r : cRV Try.prog Try.f57.results.toList = some rv := by kernel_rfl
theorem ca : Callable Try.prog 57 = true := by kernel_rfl
theorem enter {args : List SV} {F : Hp} {k nk : Nat} {Q : SV → Hp → Prop} (hargs : SV.oks (fun n => decide (n < k)) args = true) (hF : F.ok (fun n => decide (n < k)) = true) (hN : args.length ≤ 6)
    (h : SW Try.prog 6 k s ⟨argE 0 args, F, k⟩ fun e st' => match e with | .normal => Fin k nk rv Q st' | .ret => Fin k nk rv Q st' | _ => False) : SB Try.prog 57 args F k nk Q :=
  SB.of_body Try.func57 b c r ca hargs hF hN h
end tree_Tree_up
namespace ref12_Has
end ref12_Has
namespace ref12_Hear
end ref12_Hear
namespace ref12_Counts
end ref12_Counts
namespace ref12_Stable
end ref12_Stable
namespace ref12_Waits
end ref12_Waits
namespace ref05_zero
abbrev f : Nat := 80
def s : SCo := (.seq
(.reg [⟨(some 1), .box 41 (.t 0), none⟩,
⟨(some 2), .mv (.k (.d (.bool false))), none⟩] (fullB 2) false)
(.seq
(.reg [⟨(some 5), .fld 14 (.t 1), none⟩,
⟨(some 6), .load none (.t 5), none⟩,
⟨(some 7), .call (.k (.fn (.func 81) [] [])) [(.t 6)], none⟩,
⟨(some 3), .mv (.t 7), none⟩] (fullB 4) false)
(.seq
(.reg [⟨(some 8), .bld [(.d (.int .u8 0)), (.d (.int .u32 0))] [], none⟩,
⟨(some 4), .alloc 37 [(.d (.int .u8 0)), (.d (.int .u32 0))], none⟩,
⟨none, .store 2 (.t 4) (.t 8), none⟩] (fullB 3) false)
(.seq
 (.reg (⟨(some 9), .mv (.t 3), none⟩ ::
⟨(some 10), .call (.k (.fn (.func 83) [] [])) [(.t 9), (.k (.d (.int .u8 99)))], none⟩ ::
⟨(some 11), .mv (.t 10), none⟩ ::
⟨(some 12), .fld 15 (.t 1), some (11, false)⟩ ::
⟨(some 13), .load (some 2) (.t 12), some (11, false)⟩ ::
⟨(some 14), .load (some 2) (.t 4), some (11, false)⟩ ::
⟨(some 15), .eqv false [true, true] (.t 13) (.t 14), some (11, false)⟩ ::
⟨(some 16), .pick (.t 11) (.k (.d (.bool true))) (.t 15), none⟩ ::
⟨(some 17), .mv (.t 16), none⟩ ::
⟨(some 18), .mv (.t 3), some (17, true)⟩ ::
⟨(some 19), .call (.k (.fn (.func 83) [] [])) [(.t 18), (.k (.d (.int .u8 116)))], some (17, true)⟩ ::
⟨(some 20), .mv (.t 19), some (17, true)⟩ ::
⟨(some 21), .fld 17 (.t 1), some (20, false)⟩ ::
⟨(some 22), .load none (.t 21), some (20, false)⟩ ::
⟨(some 23), .bin .eql (.t 22) (.k (.d (.int .u32 0))), some (20, false)⟩ ::
⟨(some 24), .pick (.t 20) (.k (.d (.bool true))) (.t 23), some (17, true)⟩ ::
⟨(some 25), .pick (.t 17) (.t 24) (.k (.d (.bool false))), none⟩ ::
⟨(some 26), .mv (.t 25), none⟩ ::
⟨(some 27), .mv (.t 3), some (26, true)⟩ ::
⟨(some 28), .call (.k (.fn (.func 83) [] [])) [(.t 27), (.k (.d (.int .u8 114)))], some (26, true)⟩ ::
⟨(some 29), .mv (.t 28), some (26, true)⟩ ::
⟨(some 30), .fld 18 (.t 1), some (29, false)⟩ ::
⟨(some 31), .load none (.t 30), some (29, false)⟩ ::
⟨(some 32), .bin .eql (.t 31) (.k (.d (.int .u8 0))), some (29, false)⟩ ::
⟨(some 33), .pick (.t 29) (.k (.d (.bool true))) (.t 32), some (26, true)⟩ ::
⟨(some 34), .pick (.t 26) (.t 33) (.k (.d (.bool false))), none⟩ ::
⟨(some 35), .mv (.t 34), none⟩ ::
⟨(some 36), .mv (.t 3), some (35, true)⟩ ::
⟨(some 37), .call (.k (.fn (.func 83) [] [])) [(.t 36), (.k (.d (.int .u8 100)))], some (35, true)⟩ ::
⟨(some 38), .mv (.t 37), some (35, true)⟩ ::
⟨(some 39), .fld 19 (.t 1), some (38, false)⟩ ::
⟨(some 40), .load none (.t 39), some (38, false)⟩ ::
⟨(some 41), .bin .eql (.t 40) (.k (.d (.int .u8 0))), some (38, false)⟩ ::
⟨(some 42), .pick (.t 38) (.k (.d (.bool true))) (.t 41), some (35, true)⟩ ::
⟨(some 43), .pick (.t 35) (.t 42) (.k (.d (.bool false))), none⟩ ::
⟨(some 44), .mv (.t 43), none⟩ ::
⟨(some 45), .mv (.t 3), some (44, true)⟩ ::
⟨(some 46), .call (.k (.fn (.func 83) [] [])) [(.t 45), (.k (.d (.int .u8 112)))], some (44, true)⟩ ::
⟨(some 47), .mv (.t 46), some (44, true)⟩ ::
⟨(some 48), .fld 20 (.t 1), some (47, false)⟩ ::
⟨(some 49), .load none (.t 48), some (47, false)⟩ ::
⟨(some 50), .bin .eql (.t 49) (.k (.d (.int .u64 0))), some (47, false)⟩ ::
⟨(some 51), .pick (.t 47) (.k (.d (.bool true))) (.t 50), some (44, true)⟩ ::
⟨(some 52), .pick (.t 44) (.t 51) (.k (.d (.bool false))), none⟩ ::
⟨(some 53), .mv (.t 52), none⟩ ::
⟨(some 54), .mv (.t 3), some (53, true)⟩ ::
⟨(some 55), .call (.k (.fn (.func 83) [] [])) [(.t 54), (.k (.d (.int .u8 97)))], some (53, true)⟩ ::
⟨(some 56), .mv (.t 55), some (53, true)⟩ ::
⟨(some 57), .fld 21 (.t 1), some (56, false)⟩ ::
⟨(some 58), .load (some 2) (.t 57), some (56, false)⟩ ::
⟨(some 59), .load (some 2) (.t 4), some (56, false)⟩ ::
⟨(some 60), .eqv false [true, true] (.t 58) (.t 59), some (56, false)⟩ ::
⟨(some 61), .pick (.t 56) (.k (.d (.bool true))) (.t 60), some (53, true)⟩ ::
⟨(some 62), .pick (.t 53) (.t 61) (.k (.d (.bool false))), none⟩ ::
⟨(some 63), .mv (.t 62), none⟩ ::
⟨(some 64), .mv (.t 3), some (63, true)⟩ ::
⟨(some 65), .call (.k (.fn (.func 83) [] [])) [(.t 64), (.k (.d (.int .u8 118)))], some (63, true)⟩ ::
⟨(some 66), .mv (.t 65), some (63, true)⟩ ::
⟨(some 67), .fld 23 (.t 1), some (66, false)⟩ ::
⟨(some 68), .load (some 2) (.t 67), some (66, false)⟩ ::
⟨(some 69), .load (some 2) (.t 4), some (66, false)⟩ ::
⟨(some 70), .eqv false [true, true] (.t 68) (.t 69), some (66, false)⟩ ::
⟨(some 71), .pick (.t 66) (.k (.d (.bool true))) (.t 70), some (63, true)⟩ ::
⟨(some 72), .pick (.t 63) (.t 71) (.k (.d (.bool false))), none⟩ ::
⟨(some 73), .mv (.t 72), none⟩ ::
⟨(some 74), .mv (.t 3), some (73, true)⟩ ::
⟨(some 75), .call (.k (.fn (.func 83) [] [])) [(.t 74), (.k (.d (.int .u8 105)))], some (73, true)⟩ ::
⟨(some 76), .mv (.t 75), some (73, true)⟩ ::
⟨(some 77), .fld 25 (.t 1), some (76, false)⟩ ::
⟨(some 78), .load none (.t 77), some (76, false)⟩ ::
⟨(some 79), .bin .eql (.t 78) (.k (.d (.int .u32 0))), some (76, false)⟩ ::
⟨(some 80), .pick (.t 76) (.k (.d (.bool true))) (.t 79), some (73, true)⟩ ::
⟨(some 81), .pick (.t 73) (.t 80) (.k (.d (.bool false))), none⟩ ::
⟨(some 82), .mv (.t 81), none⟩ ::
⟨(some 83), .mv (.t 3), some (82, true)⟩ ::
⟨(some 84), .call (.k (.fn (.func 83) [] [])) [(.t 83), (.k (.d (.int .u8 113)))], some (82, true)⟩ ::
⟨(some 85), .mv (.t 84), some (82, true)⟩ ::
⟨(some 86), .fld 26 (.t 1), some (85, false)⟩ ::
⟨(some 87), .load none (.t 86), some (85, false)⟩ ::
⟨(some 88), .bin .eql (.t 87) (.k (.d (.int .u32 0))), some (85, false)⟩ ::
⟨(some 89), .pick (.t 85) (.k (.d (.bool true))) (.t 88), some (82, true)⟩ ::
⟨(some 90), .pick (.t 82) (.t 89) (.k (.d (.bool false))), none⟩ ::
⟨(some 91), .mv (.t 90), none⟩ ::
⟨(some 92), .mv (.t 3), some (91, true)⟩ ::
⟨(some 93), .call (.k (.fn (.func 83) [] [])) [(.t 92), (.k (.d (.int .u8 101)))], some (91, true)⟩ ::
⟨(some 94), .mv (.t 93), some (91, true)⟩ ::
⟨(some 95), .fld 27 (.t 1), some (94, false)⟩ ::
⟨(some 96), .load none (.t 95), some (94, false)⟩ ::
⟨(some 97), .bin .eql (.t 96) (.k (.d (.int .u32 0))), some (94, false)⟩ ::
⟨(some 98), .pick (.t 94) (.k (.d (.bool true))) (.t 97), some (91, true)⟩ ::
⟨(some 99), .pick (.t 91) (.t 98) (.k (.d (.bool false))), none⟩ ::
⟨(some 100), .mv (.t 99), none⟩ ::
⟨(some 101), .mv (.t 3), some (100, true)⟩ ::
⟨(some 102), .call (.k (.fn (.func 83) [] [])) [(.t 101), (.k (.d (.int .u8 108)))], some (100, true)⟩ ::
⟨(some 103), .mv (.t 102), some (100, true)⟩ ::
⟨(some 104), .fld 28 (.t 1), some (103, false)⟩ ::
⟨(some 105), .load none (.t 104), some (103, false)⟩ ::
⟨(some 106), .len (.t 105), some (103, false)⟩ ::
⟨(some 107), .bin .eql (.t 106) (.k (.d (.int .i64 0))), some (103, false)⟩ ::
⟨(some 108), .pick (.t 103) (.k (.d (.bool true))) (.t 107), some (100, true)⟩ ::
⟨(some 109), .pick (.t 100) (.t 108) (.k (.d (.bool false))), none⟩ ::
⟨(some 2), .mv (.t 109), none⟩ :: []) (fullB 102) false)
 .ret))))
def rv : List RV := [.tmp 2]
theorem c : cK Try.prog Try.f80.ntmps (Try.f80.body.getD .ret) = some s := by kernel_rfl
theorem b : Try.f80.body = some (Try.f80.body.getD .ret) := by kernel_rfl
theorem r : cRV Try.prog Try.f80.results.toList = some rv := by kernel_rfl
theorem ca : Callable Try.prog 80 = true := by kernel_rfl
theorem enter {args : List SV} {F : Hp} {k nk : Nat} {Q : SV → Hp → Prop} (hargs : SV.oks (fun n => decide (n < k)) args = true) (hF : F.ok (fun n => decide (n < k)) = true) (hN : args.length ≤ 110)
    (h : SW Try.prog 110 k s ⟨argE 0 args, F, k⟩ fun e st' => match e with | .normal => Fin k nk rv Q st' | .ret => Fin k nk rv Q st' | _ => False) : SB Try.prog 80 args F k nk Q :=
  SB.of_body Try.func80 b c r ca hargs hF hN h
end ref05_zero
namespace ref05_Has
abbrev f : Nat := 81
def s : SCo := (.seq
(.reg [⟨(some 2), .mv (.k (.d (.str []))), none⟩] (fullB 1) false)
(.seq
(.reg [⟨(some 4), .bsl 9 1 9 [(.d (.str [])), (.d (.str [])), (.d (.str [])), (.d (.str [])), (.d (.str [])), (.d (.str [])), (.d (.str [])), (.d (.str [])), (.d (.str []))] [(0, 1, (.k (.d (.str [])))), (1, 1, (.k (.d (.str [99, 116, 114, 100, 112])))), (2, 1, (.k (.d (.str [99, 97])))), (3, 1, (.k (.d (.str [99, 105, 113, 101])))), (4, 1, (.k (.d (.str [99, 97, 113])))), (5, 1, (.k (.d (.str [99, 97])))), (6, 1, (.k (.d (.str [99, 97, 118])))), (7, 1, (.k (.d (.str [99, 97, 118])))), (8, 1, (.k (.d (.str [99, 108]))))], none⟩,
⟨(some 3), .mv (.t 4), none⟩] (fullB 2) false)
(.seq
(.seq
 (.reg [⟨(some 5), .mv (.t 0), none⟩,
⟨(some 6), .conv .i64 (.t 5), none⟩,
⟨(some 7), .mv (.t 3), none⟩,
⟨(some 8), .len (.t 7), none⟩,
⟨(some 9), .bin .geq (.t 6) (.t 8), none⟩] (fullB 5) false)
 (.cond (.t 9)
 (.seq
 (.reg [⟨(some 2), .mv (.k (.d (.str []))), none⟩] (fullB 1) false)
 .ret)
 .skip))
(.seq
 (.reg [⟨(some 10), .mv (.t 3), none⟩,
⟨(some 11), .mv (.t 0), none⟩,
⟨(some 12), .idxS 1 (.t 10) (.t 11), none⟩,
⟨(some 13), .load none (.t 12), none⟩,
⟨(some 2), .mv (.t 13), none⟩] (fullB 5) false)
 .ret))))
def rv : List RV := [.tmp 2]
theorem c : cK Try.prog Try.f81.ntmps (Try.f81.body.getD .ret) = some s := by kernel_rfl
theorem b : Try.f81.body = some (Try.f81.body.getD .ret) := by kernel_rfl
theorem r : cRV Try.prog Try.f81.results.toList = some rv := by kernel_rfl
theorem ca : Callable Try.prog 81 = true := by kernel_rfl
theorem enter {args : List SV} {F : Hp} {k nk : Nat} {Q : SV → Hp → Prop} (hargs : SV.oks (fun n => decide (n < k)) args = true) (hF : F.ok (fun n => decide (n < k)) = true) (hN : args.length ≤ 14)
    (h : SW Try.prog 14 k s ⟨argE 0 args, F, k⟩ fun e st' => match e with | .normal => Fin k nk rv Q st' | .ret => Fin k nk rv Q st' | _ => False) : SB Try.prog 81 args F k nk Q :=
  SB.of_body Try.func81 b c r ca hargs hF hN h
end ref05_Has
namespace ref05_Covers
abbrev f : Nat := 82
def s : SCo := (.seq
(.reg [⟨(some 2), .box 41 (.t 0), none⟩,
⟨(some 3), .box 37 (.t 1), none⟩,
⟨(some 4), .mv (.k (.d (.bool false))), none⟩] (fullB 3) false)
(.seq
(.reg (⟨(some 5), .fld 0 (.t 3), none⟩ ::
⟨(some 6), .load none (.t 5), none⟩ ::
⟨(some 7), .bin .lss (.t 6) (.k (.d (.int .u8 8))), none⟩ ::
⟨(some 8), .mv (.t 7), none⟩ ::
⟨(some 9), .fld 1 (.t 3), some (8, true)⟩ ::
⟨(some 10), .load none (.t 9), some (8, true)⟩ ::
⟨(some 11), .bin .geq (.t 10) (.k (.d (.int .u32 1))), some (8, true)⟩ ::
⟨(some 12), .pick (.t 8) (.t 11) (.k (.d (.bool false))), none⟩ ::
⟨(some 13), .mv (.t 12), none⟩ ::
⟨(some 14), .fld 0 (.t 3), some (13, true)⟩ ::
⟨(some 15), .load none (.t 14), some (13, true)⟩ ::
⟨(some 16), .fld 2 (.t 2), some (13, true)⟩ ::
⟨(some 17), .idxA 8 1 (.t 16) (.t 15), some (13, true)⟩ ::
⟨(some 18), .load none (.t 17), some (13, true)⟩ ::
⟨(some 19), .fld 1 (.t 3), some (13, true)⟩ ::
⟨(some 20), .load none (.t 19), some (13, true)⟩ ::
⟨(some 21), .bin .geq (.t 18) (.t 20), some (13, true)⟩ ::
⟨(some 22), .pick (.t 13) (.t 21) (.k (.d (.bool false))), none⟩ ::
⟨(some 4), .mv (.t 22), none⟩ :: []) (0 ::
1 ::
3 ::
7 ::
15 ::
31 ::
63 ::
127 ::
255 ::
511 ::
1023 ::
511 ::
4095 ::
8191 ::
511 ::
16895 ::
65535 ::
131071 ::
262143 :: []) true)
.ret))
def rv : List RV := [.tmp 4]
theorem c : cK Try.prog Try.f82.ntmps (Try.f82.body.getD .ret) = some s := by kernel_rfl
theorem b : Try.f82.body = some (Try.f82.body.getD .ret) := by kernel_rfl
theorem r : cRV Try.prog Try.f82.results.toList = some rv := by kernel_rfl
theorem ca : Callable Try.prog 82 = true := by kernel_rfl
theorem enter {args : List SV} {F : Hp} {k nk : Nat} {Q : SV → Hp → Prop} (hargs : SV.oks (fun n => decide (n < k)) args = true) (hF : F.ok (fun n => decide (n < k)) = true) (hN : args.length ≤ 23)
    (h : SW Try.prog 23 k s ⟨argE 0 args, F, k⟩ fun e st' => match e with | .normal => Fin k nk rv Q st' | .ret => Fin k nk rv Q st' | _ => False) : SB Try.prog 82 args F k nk Q :=
  SB.of_body Try.func82 b c r ca hargs hF hN h
end ref05_Covers
namespace ref05_in
abbrev f : Nat := 83
def s : SCo := (.seq
(.reg [⟨(some 4), .mv (.k (.d (.bool false))), none⟩] (fullB 1) false)
(.seq
(.seq
(.reg [⟨(some 5), .mv (.k (.d (.int .i64 0))), none⟩] (fullB 1) false)
(.block 0
 (.loop
 (.seq
 (.seq
 (.reg [⟨(some 6), .mv (.t 5), none⟩,
⟨(some 7), .mv (.t 0), none⟩,
⟨(some 8), .lens (.t 7), none⟩,
⟨(some 9), .bin .lss (.t 6) (.t 8), none⟩] (fullB 4) false)
 (.cond (.t 9)
  .skip
  (.exit 0)))
 (.seq
 (.block 1
  (.seq
  (.reg [⟨(some 12), .mv (.t 0), none⟩,
⟨(some 13), .mv (.t 5), none⟩,
⟨(some 14), .idxT (.t 12) (.t 13), none⟩,
⟨(some 15), .mv (.t 1), none⟩,
⟨(some 16), .bin .eql (.t 14) (.t 15), none⟩] (fullB 5) false)
  (.cond (.t 16)
  (.seq
  (.reg [⟨(some 4), .mv (.k (.d (.bool true))), none⟩] (fullB 1) false)
  .ret)
  .skip)))
 (.reg [⟨(some 10), .mv (.t 5), none⟩,
⟨(some 11), .bin .add (.t 10) (.k (.d (.int .i64 1))), none⟩,
⟨(some 5), .mv (.t 11), none⟩] (fullB 3) false))))))
(.seq
(.reg [⟨(some 4), .mv (.k (.d (.bool false))), none⟩] (fullB 1) false)
.ret)))
def rv : List RV := [.tmp 4]
theorem c : cK Try.prog Try.f83.ntmps (Try.f83.body.getD .ret) = some s := by kernel_rfl
theorem b : Try.f83.body = some (Try.f83.body.getD .ret) := by kernel_rfl
theorem r : cRV Try.prog Try.f83.results.toList = some rv := by kernel_rfl
theorem ca : Callable Try.prog 83 = true := by kernel_rfl
theorem enter {args : List SV} {F : Hp} {k nk : Nat} {Q : SV → Hp → Prop} (hargs : SV.oks (fun n => decide (n < k)) args = true) (hF : F.ok (fun n => decide (n < k)) = true) (hN : args.length ≤ 17)
    (h : SW Try.prog 17 k s ⟨argE 0 args, F, k⟩ fun e st' => match e with | .normal => Fin k nk rv Q st' | .ret => Fin k nk rv Q st' | _ => False) : SB Try.prog 83 args F k nk Q :=
  SB.of_body Try.func83 b c r ca hargs hF hN h
end ref05_in
namespace ref05_lines
abbrev f : Nat := 84
def s : SCo := (.seq
(.reg [⟨(some 1), .box 41 (.t 0), none⟩,
⟨(some 2), .mv (.k (.d (.bool false))), none⟩] (fullB 2) false)
(.seq
(.seq
(.reg [⟨(some 5), .fld 28 (.t 1), none⟩,
⟨(some 6), .load none (.t 5), none⟩,
⟨(some 7), .len (.t 6), none⟩,
⟨(some 8), .bin .lss (.t 7) (.k (.d (.int .i64 1))), none⟩,
⟨(some 9), .mv (.t 8), none⟩,
⟨(some 10), .fld 28 (.t 1), some (9, false)⟩,
⟨(some 11), .load none (.t 10), some (9, false)⟩,
⟨(some 12), .len (.t 11), some (9, false)⟩,
⟨(some 13), .bin .gtr (.t 12) (.k (.d (.int .i64 16))), some (9, false)⟩,
⟨(some 14), .pick (.t 9) (.k (.d (.bool true))) (.t 13), none⟩] (fullB 10) false)
(.cond (.t 14)
 (.seq
 (.reg [⟨(some 2), .mv (.k (.d (.bool false))), none⟩] (fullB 1) false)
 .ret)
 .skip))
(.seq
(.seq
 (.reg [⟨(some 3), .mv (.k (.d (.int .i64 0))), none⟩] (fullB 1) false)
 (.block 0
 (.loop
 (.seq
 (.seq
  (.reg [⟨(some 15), .mv (.t 3), none⟩,
⟨(some 16), .fld 28 (.t 1), none⟩,
⟨(some 17), .load none (.t 16), none⟩,
⟨(some 18), .len (.t 17), none⟩,
⟨(some 19), .bin .lss (.t 15) (.t 18), none⟩] (fullB 5) false)
  (.cond (.t 19)
  .skip
  (.exit 0)))
 (.seq
  (.block 1
  (.seq
  (.seq
  (.reg (⟨(some 22), .load (some 29) (.t 1), none⟩ ::
⟨(some 23), .fld 28 (.t 1), none⟩ ::
⟨(some 24), .load none (.t 23), none⟩ ::
⟨(some 25), .mv (.t 3), none⟩ ::
⟨(some 26), .idxS 4 (.t 24) (.t 25), none⟩ ::
⟨(some 27), .fld 0 (.t 26), none⟩ ::
⟨(some 28), .load (some 2) (.t 27), none⟩ ::
⟨(some 29), .call (.k (.fn (.func 82) [] [])) [(.t 22), (.t 28)], none⟩ ::
⟨(some 30), .not (.t 29), none⟩ ::
⟨(some 31), .mv (.t 30), none⟩ ::
⟨(some 32), .load (some 29) (.t 1), some (31, false)⟩ ::
⟨(some 33), .fld 28 (.t 1), some (31, false)⟩ ::
⟨(some 34), .load none (.t 33), some (31, false)⟩ ::
⟨(some 35), .mv (.t 3), some (31, false)⟩ ::
⟨(some 36), .idxS 4 (.t 34) (.t 35), some (31, false)⟩ ::
⟨(some 37), .fld 2 (.t 36), some (31, false)⟩ ::
⟨(some 38), .load (some 2) (.t 37), some (31, false)⟩ ::
⟨(some 39), .call (.k (.fn (.func 82) [] [])) [(.t 32), (.t 38)], some (31, false)⟩ ::
⟨(some 40), .not (.t 39), some (31, false)⟩ ::
⟨(some 41), .pick (.t 31) (.k (.d (.bool true))) (.t 40), none⟩ :: []) (0 ::
0 ::
2 ::
0 ::
14 ::
30 ::
62 ::
127 ::
255 ::
511 ::
1023 ::
1023 ::
3071 ::
1023 ::
15359 ::
31743 ::
64511 ::
131071 ::
262143 ::
524287 :: []) true)
  (.cond (.t 41)
   (.seq
   (.reg [⟨(some 2), .mv (.k (.d (.bool false))), none⟩] (fullB 1) false)
   .ret)
   .skip))
  (.seq
  (.reg [⟨(some 4), .mv (.k (.d (.int .i64 0))), none⟩] (fullB 1) false)
  (.block 2
   (.loop
   (.seq
   (.seq
   (.reg [⟨(some 42), .mv (.t 4), none⟩,
⟨(some 43), .mv (.t 3), none⟩,
⟨(some 44), .bin .lss (.t 42) (.t 43), none⟩] (fullB 3) false)
   (.cond (.t 44)
    .skip
    (.exit 2)))
   (.seq
   (.block 3
    (.seq
    (.reg [⟨(some 47), .fld 28 (.t 1), none⟩,
⟨(some 48), .load none (.t 47), none⟩,
⟨(some 49), .mv (.t 4), none⟩,
⟨(some 50), .idxS 4 (.t 48) (.t 49), none⟩,
⟨(some 51), .fld 0 (.t 50), none⟩,
⟨(some 52), .load (some 2) (.t 51), none⟩,
⟨(some 53), .fld 28 (.t 1), none⟩,
⟨(some 54), .load none (.t 53), none⟩,
⟨(some 55), .mv (.t 3), none⟩,
⟨(some 56), .idxS 4 (.t 54) (.t 55), none⟩,
⟨(some 57), .fld 0 (.t 56), none⟩,
⟨(some 58), .load (some 2) (.t 57), none⟩,
⟨(some 59), .eqv false [true, true] (.t 52) (.t 58), none⟩] [0,
1,
0,
7,
15,
31,
0,
64,
0,
448,
960,
1984,
4095] true)
    (.cond (.t 59)
    (.seq
    (.reg [⟨(some 2), .mv (.k (.d (.bool false))), none⟩] (fullB 1) false)
    .ret)
    .skip)))
   (.reg [⟨(some 45), .mv (.t 4), none⟩,
⟨(some 46), .bin .add (.t 45) (.k (.d (.int .i64 1))), none⟩,
⟨(some 4), .mv (.t 46), none⟩] (fullB 3) false))))))))
  (.reg [⟨(some 20), .mv (.t 3), none⟩,
⟨(some 21), .bin .add (.t 20) (.k (.d (.int .i64 1))), none⟩,
⟨(some 3), .mv (.t 21), none⟩] (fullB 3) false))))))
(.seq
 (.reg [⟨(some 2), .mv (.k (.d (.bool true))), none⟩] (fullB 1) false)
 .ret))))
def rv : List RV := [.tmp 2]
theorem c : cK Try.prog Try.f84.ntmps (Try.f84.body.getD .ret) = some s := by kernel_rfl
theorem b : Try.f84.body = some (Try.f84.body.getD .ret) := by kernel_rfl
theorem r : cRV Try.prog Try.f84.results.toList = some rv := by kernel_rfl
theorem ca : Callable Try.prog 84 = true := by kernel_rfl
theorem enter {args : List SV} {F : Hp} {k nk : Nat} {Q : SV → Hp → Prop} (hargs : SV.oks (fun n => decide (n < k)) args = true) (hF : F.ok (fun n => decide (n < k)) = true) (hN : args.length ≤ 60)
    (h : SW Try.prog 60 k s ⟨argE 0 args, F, k⟩ fun e st' => match e with | .normal => Fin k nk rv Q st' | .ret => Fin k nk rv Q st' | _ => False) : SB Try.prog 84 args F k nk Q :=
  SB.of_body Try.func84 b c r ca hargs hF hN h
end ref05_lines
namespace ref10_there
abbrev f : Nat := 85
def s : SCo := (.seq
(.reg [⟨(some 3), .box 37 (.t 1), none⟩,
⟨(some 4), .mv (.k (.d (.int .i64 0))), none⟩] (fullB 2) false)
(.seq
(.reg [⟨(some 5), .mv (.k (.d (.int .i64 0))), none⟩] (fullB 1) false)
(.seq
(.seq
 (.reg [⟨(some 6), .mv (.k (.d (.int .i64 0))), none⟩] (fullB 1) false)
 (.block 0
 (.loop
 (.seq
 (.seq
  (.reg [⟨(some 7), .mv (.t 6), none⟩,
⟨(some 8), .mv (.t 0), none⟩,
⟨(some 9), .len (.t 8), none⟩,
⟨(some 10), .bin .lss (.t 7) (.t 9), none⟩] (fullB 4) false)
  (.cond (.t 10)
  .skip
  (.exit 0)))
 (.seq
  (.block 1
  (.seq
  (.reg [⟨(some 13), .mv (.t 0), none⟩,
⟨(some 14), .mv (.t 6), none⟩,
⟨(some 15), .idxS 29 (.t 13) (.t 14), none⟩,
⟨(some 16), .fld 0 (.t 15), none⟩,
⟨(some 17), .load (some 2) (.t 16), none⟩,
⟨(some 18), .load (some 2) (.t 3), none⟩,
⟨(some 19), .eqv false [true, true] (.t 17) (.t 18), none⟩] [0,
0,
3,
7,
15,
0,
63] true)
  (.cond (.t 19)
  (.reg [⟨(some 20), .mv (.t 5), none⟩,
⟨(some 21), .bin .add (.t 20) (.k (.d (.int .i64 1))), none⟩,
⟨(some 5), .mv (.t 21), none⟩] (fullB 3) false)
  .skip)))
  (.reg [⟨(some 11), .mv (.t 6), none⟩,
⟨(some 12), .bin .add (.t 11) (.k (.d (.int .i64 1))), none⟩,
⟨(some 6), .mv (.t 12), none⟩] (fullB 3) false))))))
(.seq
 (.reg [⟨(some 22), .mv (.t 5), none⟩,
⟨(some 4), .mv (.t 22), none⟩] (fullB 2) false)
 .ret))))
def rv : List RV := [.tmp 4]
theorem c : cK Try.prog Try.f85.ntmps (Try.f85.body.getD .ret) = some s := by kernel_rfl
theorem b : Try.f85.body = some (Try.f85.body.getD .ret) := by kernel_rfl
theorem r : cRV Try.prog Try.f85.results.toList = some rv := by kernel_rfl
theorem ca : Callable Try.prog 85 = true := by kernel_rfl
theorem enter {args : List SV} {F : Hp} {k nk : Nat} {Q : SV → Hp → Prop} (hargs : SV.oks (fun n => decide (n < k)) args = true) (hF : F.ok (fun n => decide (n < k)) = true) (hN : args.length ≤ 23)
    (h : SW Try.prog 23 k s ⟨argE 0 args, F, k⟩ fun e st' => match e with | .normal => Fin k nk rv Q st' | .ret => Fin k nk rv Q st' | _ => False) : SB Try.prog 85 args F k nk Q :=
  SB.of_body Try.func85 b c r ca hargs hF hN h
end ref10_there
namespace ref10_Before
abbrev f : Nat := 86
def s : SCo := (.seq
(.reg [⟨(some 2), .box 41 (.t 0), none⟩,
⟨(some 3), .box 41 (.t 1), none⟩,
⟨(some 4), .mv (.k (.d (.bool false))), none⟩] (fullB 3) false)
(.seq
(.reg [⟨(some 5), .fld 2 (.t 3), none⟩,
⟨(some 6), .load (some 8) (.t 5), none⟩,
⟨(some 7), .fld 0 (.t 2), none⟩,
⟨(some 8), .load (some 2) (.t 7), none⟩,
⟨(some 9), .call (.k (.fn (.func 17) [] [])) [(.t 6), (.t 8)], none⟩,
⟨(some 4), .mv (.t 9), none⟩] (fullB 6) false)
.ret))
def rv : List RV := [.tmp 4]
theorem c : cK Try.prog Try.f86.ntmps (Try.f86.body.getD .ret) = some s := by kernel_rfl
theorem b : Try.f86.body = some (Try.f86.body.getD .ret) := by kernel_rfl
theorem r : cRV Try.prog Try.f86.results.toList = some rv := by kernel_rfl
theorem ca : Callable Try.prog 86 = true := by kernel_rfl
theorem enter {args : List SV} {F : Hp} {k nk : Nat} {Q : SV → Hp → Prop} (hargs : SV.oks (fun n => decide (n < k)) args = true) (hF : F.ok (fun n => decide (n < k)) = true) (hN : args.length ≤ 10)
    (h : SW Try.prog 10 k s ⟨argE 0 args, F, k⟩ fun e st' => match e with | .normal => Fin k nk rv Q st' | .ret => Fin k nk rv Q st' | _ => False) : SB Try.prog 86 args F k nk Q :=
  SB.of_body Try.func86 b c r ca hargs hF hN h
end ref10_Before
namespace vector_Merge
end vector_Merge
namespace stable_Tracker_settle_1
end stable_Tracker_settle_1
namespace vector_all_api_Vector
end vector_all_api_Vector
namespace vector_each
end vector_each
namespace vector_Meet_1
end vector_Meet_1
namespace tree_Tree_Why_1
abbrev f : Nat := 92
def s : SCo := (.seq
(.reg [⟨(some 1), .mv (.k (.d (.bool false))), none⟩] (fullB 1) false)
(.seq
(.reg [⟨(some 2), .fld 14 (.t 0), none⟩,
⟨(some 3), .load none (.t 2), none⟩,
⟨(some 4), .bin .neq (.t 3) (.k (.d (.int .u8 1))), none⟩,
⟨(some 1), .mv (.t 4), none⟩] (fullB 4) false)
.ret))
def rv : List RV := [.tmp 1]
theorem c : cK Try.prog Try.f92.ntmps (Try.f92.body.getD .ret) = some s := by kernel_rfl
theorem b : Try.f92.body = some (Try.f92.body.getD .ret) := by kernel_rfl
theorem r : cRV Try.prog Try.f92.results.toList = some rv := by kernel_rfl
theorem ca : Callable Try.prog 92 = true := by kernel_rfl
theorem enter {args : List SV} {F : Hp} {k nk : Nat} {Q : SV → Hp → Prop} (hargs : SV.oks (fun n => decide (n < k)) args = true) (hF : F.ok (fun n => decide (n < k)) = true) (hN : args.length ≤ 5)
    (h : SW Try.prog 5 k s ⟨argE 0 args, F, k⟩ fun e st' => match e with | .normal => Fin k nk rv Q st' | .ret => Fin k nk rv Q st' | _ => False) : SB Try.prog 92 args F k nk Q :=
  SB.of_body Try.func92 b c r ca hargs hF hN h
end tree_Tree_Why_1
namespace tree_Tree_Why_2
abbrev f : Nat := 93
def s : SCo := (.seq
(.reg [⟨(some 4), .mv (.k (.d (.bool false))), none⟩] (fullB 1) false)
(.seq
(.reg (⟨(some 5), .load none (.t 0), none⟩ ::
⟨(some 6), .not (.t 5), none⟩ ::
⟨(some 7), .mv (.t 6), none⟩ ::
⟨(some 8), .fld 2 (.t 1), some (7, false)⟩ ::
⟨(some 9), .load (some 2) (.t 8), some (7, false)⟩ ::
⟨(some 10), .fld 12 (.t 2), some (7, false)⟩ ::
⟨(some 11), .load (some 2) (.t 10), some (7, false)⟩ ::
⟨(some 12), .eqv true [true, true] (.t 9) (.t 11), some (7, false)⟩ ::
⟨(some 13), .pick (.t 7) (.k (.d (.bool true))) (.t 12), none⟩ ::
⟨(some 14), .mv (.t 13), none⟩ ::
⟨(some 15), .load none (.t 3), some (14, false)⟩ ::
⟨(some 16), .nilc (.t 15), some (14, false)⟩ ::
⟨(some 17), .fld 1 (.t 16), some (14, false)⟩ ::
⟨(some 18), .load none (.t 17), some (14, false)⟩ ::
⟨(some 19), .fld 15 (.t 2), some (14, false)⟩ ::
⟨(some 20), .load (some 2) (.t 19), some (14, false)⟩ ::
⟨(some 21), .look [true, true] true (.agg [(.d (.int .u8 0)), (.d (.int .u32 0)), (.d (.int .u32 0)), (.d (.int .u32 0)), (.d (.int .u32 0)), (.d (.int .u32 0)), (.d (.int .u32 0)), (.d (.int .u32 0)), (.d (.int .u32 0)), (.d (.int .u32 0)), (.d (.int .u64 0)), (.d (.int .u32 0)), (.d (.int .u8 0)), (.d (.int .u32 0)), (.d (.int .u8 0)), (.d (.int .u8 0)), (.d (.int .u32 0)), (.d (.int .u32 0)), (.d (.int .u8 0)), (.d (.int .u8 0)), (.d (.int .u64 0)), (.d (.int .u8 0)), (.d (.int .u32 0)), (.d (.int .u8 0)), (.d (.int .u32 0)), (.d (.int .u32 0)), (.d (.int .u32 0)), (.d (.int .u32 0)), (.d .nils)]) (.t 18) (.t 20) false, some (14, false)⟩ ::
⟨(some 22), .load (some 29) (.t 2), some (14, false)⟩ ::
⟨(some 23), .call (.k (.fn (.func 94) [] [])) [(.t 21), (.t 22)], some (14, false)⟩ ::
⟨(some 24), .not (.t 23), some (14, false)⟩ ::
⟨(some 25), .pick (.t 14) (.k (.d (.bool true))) (.t 24), none⟩ ::
⟨(some 4), .mv (.t 25), none⟩ :: []) (0 ::
1 ::
3 ::
7 ::
15 ::
7 ::
39 ::
127 ::
255 ::
511 ::
1023 ::
2047 ::
4095 ::
8191 ::
1023 ::
17407 ::
65535 ::
1023 ::
262143 ::
524287 ::
1048575 ::
2097151 :: []) true)
.ret))
def rv : List RV := [.tmp 4]
theorem c : cK Try.prog Try.f93.ntmps (Try.f93.body.getD .ret) = some s := by kernel_rfl
theorem b : Try.f93.body = some (Try.f93.body.getD .ret) := by kernel_rfl
theorem r : cRV Try.prog Try.f93.results.toList = some rv := by kernel_rfl
theorem ca : Callable Try.prog 93 = true := by kernel_rfl
theorem enter {args : List SV} {F : Hp} {k nk : Nat} {Q : SV → Hp → Prop} (hargs : SV.oks (fun n => decide (n < k)) args = true) (hF : F.ok (fun n => decide (n < k)) = true) (hN : args.length ≤ 26)
    (h : SW Try.prog 26 k s ⟨argE 0 args, F, k⟩ fun e st' => match e with | .normal => Fin k nk rv Q st' | .ret => Fin k nk rv Q st' | _ => False) : SB Try.prog 93 args F k nk Q :=
  SB.of_body Try.func93 b c r ca hargs hF hN h
end tree_Tree_Why_2
namespace order_Before
abbrev f : Nat := 94
def s : SCo := (.seq
(.reg [⟨(some 2), .box 41 (.t 0), none⟩,
⟨(some 3), .box 41 (.t 1), none⟩,
⟨(some 4), .mv (.k (.d (.bool false))), none⟩] (fullB 3) false)
(.seq
(.reg [⟨(some 5), .fld 2 (.t 3), none⟩,
⟨(some 6), .load (some 8) (.t 5), none⟩,
⟨(some 7), .fld 0 (.t 2), none⟩,
⟨(some 8), .load (some 2) (.t 7), none⟩,
⟨(some 9), .call (.k (.fn (.func 113) [] [])) [(.t 6), (.t 8)], none⟩,
⟨(some 4), .mv (.t 9), none⟩] (fullB 6) false)
.ret))
def rv : List RV := [.tmp 4]
theorem c : cK Try.prog Try.f94.ntmps (Try.f94.body.getD .ret) = some s := by kernel_rfl
theorem b : Try.f94.body = some (Try.f94.body.getD .ret) := by kernel_rfl
theorem r : cRV Try.prog Try.f94.results.toList = some rv := by kernel_rfl
theorem ca : Callable Try.prog 94 = true := by kernel_rfl
theorem enter {args : List SV} {F : Hp} {k nk : Nat} {Q : SV → Hp → Prop} (hargs : SV.oks (fun n => decide (n < k)) args = true) (hF : F.ok (fun n => decide (n < k)) = true) (hN : args.length ≤ 10)
    (h : SW Try.prog 10 k s ⟨argE 0 args, F, k⟩ fun e st' => match e with | .normal => Fin k nk rv Q st' | .ret => Fin k nk rv Q st' | _ => False) : SB Try.prog 94 args F k nk Q :=
  SB.of_body Try.func94 b c r ca hargs hF hN h
end order_Before
namespace tree_Tree_Why_3
abbrev f : Nat := 95
def s : SCo := (.seq
(.reg [⟨(some 2), .mv (.k (.d (.bool false))), none⟩] (fullB 1) false)
(.seq
(.reg [⟨(some 3), .fld 6 (.t 0), none⟩,
⟨(some 4), .load none (.t 3), none⟩,
⟨(some 5), .fld 11 (.t 1), none⟩,
⟨(some 6), .load none (.t 5), none⟩,
⟨(some 7), .bin .neq (.t 4) (.t 6), none⟩,
⟨(some 2), .mv (.t 7), none⟩] (fullB 6) false)
.ret))
def rv : List RV := [.tmp 2]
theorem c : cK Try.prog Try.f95.ntmps (Try.f95.body.getD .ret) = some s := by kernel_rfl
theorem b : Try.f95.body = some (Try.f95.body.getD .ret) := by kernel_rfl
theorem r : cRV Try.prog Try.f95.results.toList = some rv := by kernel_rfl
theorem ca : Callable Try.prog 95 = true := by kernel_rfl
theorem enter {args : List SV} {F : Hp} {k nk : Nat} {Q : SV → Hp → Prop} (hargs : SV.oks (fun n => decide (n < k)) args = true) (hF : F.ok (fun n => decide (n < k)) = true) (hN : args.length ≤ 8)
    (h : SW Try.prog 8 k s ⟨argE 0 args, F, k⟩ fun e st' => match e with | .normal => Fin k nk rv Q st' | .ret => Fin k nk rv Q st' | _ => False) : SB Try.prog 95 args F k nk Q :=
  SB.of_body Try.func95 b c r ca hargs hF hN h
end tree_Tree_Why_3
namespace tree_Tree_Why_4
abbrev f : Nat := 96
def s : SCo := (.seq
(.reg [⟨(some 1), .mv (.k (.d (.bool false))), none⟩] (fullB 1) false)
(.seq
(.reg [⟨(some 2), .fld 7 (.t 0), none⟩,
⟨(some 3), .load none (.t 2), none⟩,
⟨(some 4), .bin .and (.t 3) (.k (.d (.int .u8 1))), none⟩,
⟨(some 5), .bin .eql (.t 4) (.k (.d (.int .u8 0))), none⟩,
⟨(some 1), .mv (.t 5), none⟩] (fullB 5) false)
.ret))
def rv : List RV := [.tmp 1]
theorem c : cK Try.prog Try.f96.ntmps (Try.f96.body.getD .ret) = some s := by kernel_rfl
theorem b : Try.f96.body = some (Try.f96.body.getD .ret) := by kernel_rfl
theorem r : cRV Try.prog Try.f96.results.toList = some rv := by kernel_rfl
theorem ca : Callable Try.prog 96 = true := by kernel_rfl
theorem enter {args : List SV} {F : Hp} {k nk : Nat} {Q : SV → Hp → Prop} (hargs : SV.oks (fun n => decide (n < k)) args = true) (hF : F.ok (fun n => decide (n < k)) = true) (hN : args.length ≤ 6)
    (h : SW Try.prog 6 k s ⟨argE 0 args, F, k⟩ fun e st' => match e with | .normal => Fin k nk rv Q st' | .ret => Fin k nk rv Q st' | _ => False) : SB Try.prog 96 args F k nk Q :=
  SB.of_body Try.func96 b c r ca hargs hF hN h
end tree_Tree_Why_4
namespace tree_Tree_Why_5
abbrev f : Nat := 97
def s : SCo := (.seq
(.reg [⟨(some 2), .mv (.k (.d (.bool false))), none⟩] (fullB 1) false)
(.seq
(.reg (⟨(some 3), .fld 18 (.t 0), none⟩ ::
⟨(some 4), .load none (.t 3), none⟩ ::
⟨(some 5), .bin .eql (.t 4) (.k (.d (.int .u8 0))), none⟩ ::
⟨(some 6), .mv (.t 5), none⟩ ::
⟨(some 7), .fld 18 (.t 0), some (6, false)⟩ ::
⟨(some 8), .load none (.t 7), some (6, false)⟩ ::
⟨(some 9), .fld 7 (.t 1), some (6, false)⟩ ::
⟨(some 10), .load none (.t 9), some (6, false)⟩ ::
⟨(some 11), .bin .andNot (.t 8) (.t 10), some (6, false)⟩ ::
⟨(some 12), .bin .neq (.t 11) (.k (.d (.int .u8 0))), some (6, false)⟩ ::
⟨(some 13), .pick (.t 6) (.k (.d (.bool true))) (.t 12), none⟩ ::
⟨(some 14), .mv (.t 13), none⟩ ::
⟨(some 15), .fld 17 (.t 0), some (14, false)⟩ ::
⟨(some 16), .load none (.t 15), some (14, false)⟩ ::
⟨(some 17), .bin .eql (.t 16) (.k (.d (.int .u32 0))), some (14, false)⟩ ::
⟨(some 18), .pick (.t 14) (.k (.d (.bool true))) (.t 17), none⟩ ::
⟨(some 19), .mv (.t 18), none⟩ ::
⟨(some 20), .fld 19 (.t 0), some (19, false)⟩ ::
⟨(some 21), .load none (.t 20), some (19, false)⟩ ::
⟨(some 22), .fld 8 (.t 1), some (19, false)⟩ ::
⟨(some 23), .load none (.t 22), some (19, false)⟩ ::
⟨(some 24), .bin .geq (.t 21) (.t 23), some (19, false)⟩ ::
⟨(some 25), .pick (.t 19) (.k (.d (.bool true))) (.t 24), none⟩ ::
⟨(some 26), .mv (.t 25), none⟩ ::
⟨(some 27), .fld 20 (.t 0), some (26, false)⟩ ::
⟨(some 28), .load none (.t 27), some (26, false)⟩ ::
⟨(some 29), .fld 9 (.t 1), some (26, false)⟩ ::
⟨(some 30), .load none (.t 29), some (26, false)⟩ ::
⟨(some 31), .bin .gtr (.t 28) (.t 30), some (26, false)⟩ ::
⟨(some 32), .pick (.t 26) (.k (.d (.bool true))) (.t 31), none⟩ ::
⟨(some 2), .mv (.t 32), none⟩ :: []) (fullB 31) false)
.ret))
def rv : List RV := [.tmp 2]
theorem c : cK Try.prog Try.f97.ntmps (Try.f97.body.getD .ret) = some s := by kernel_rfl
theorem b : Try.f97.body = some (Try.f97.body.getD .ret) := by kernel_rfl
theorem r : cRV Try.prog Try.f97.results.toList = some rv := by kernel_rfl
theorem ca : Callable Try.prog 97 = true := by kernel_rfl
theorem enter {args : List SV} {F : Hp} {k nk : Nat} {Q : SV → Hp → Prop} (hargs : SV.oks (fun n => decide (n < k)) args = true) (hF : F.ok (fun n => decide (n < k)) = true) (hN : args.length ≤ 33)
    (h : SW Try.prog 33 k s ⟨argE 0 args, F, k⟩ fun e st' => match e with | .normal => Fin k nk rv Q st' | .ret => Fin k nk rv Q st' | _ => False) : SB Try.prog 97 args F k nk Q :=
  SB.of_body Try.func97 b c r ca hargs hF hN h
end tree_Tree_Why_5
namespace ref03_Compare
end ref03_Compare
namespace slices_IndexFunc_Lapi_Op_api_Op
abbrev f : Nat := 99
def s : SCo := (.seq
(.reg [⟨(some 4), .mv (.k (.d (.int .i64 0))), none⟩] (fullB 1) false)
(.seq
(.seq
(.reg [⟨(some 6), .mv (.t 0), none⟩,
⟨(some 7), .len (.t 6), none⟩,
⟨(some 8), .mv (.k (.d (.int .i64 0))), none⟩] (fullB 3) false)
(.block 0
 (.loop
 (.seq
 (.reg [⟨(some 9), .bin .lss (.t 8) (.t 7), none⟩] (fullB 1) false)
 (.seq
 (.cond (.t 9)
  .skip
  (.exit 0))
 (.seq
  (.block 1
  (.seq
  (.reg [⟨(some 10), .mv (.t 8), none⟩,
⟨(some 5), .mv (.t 10), none⟩] (fullB 2) false)
  (.seq
  (.reg [⟨(some 11), .mv (.t 1), none⟩,
⟨(some 12), .mv (.t 0), none⟩,
⟨(some 13), .mv (.t 5), none⟩,
⟨(some 14), .idxS 29 (.t 12) (.t 13), none⟩,
⟨(some 15), .load (some 29) (.t 14), none⟩,
⟨(some 16), .call (.t 11) [(.t 15)], none⟩] (fullB 6) false)
  (.cond (.t 16)
   (.seq
   (.reg [⟨(some 17), .mv (.t 5), none⟩,
⟨(some 4), .mv (.t 17), none⟩] (fullB 2) false)
   .ret)
   .skip))))
  (.reg [⟨(some 18), .bin .add (.t 8) (.k (.d (.int .i64 1))), none⟩,
⟨(some 8), .mv (.t 18), none⟩] (fullB 2) false)))))))
(.seq
(.reg [⟨(some 4), .mv (.k (.d (.int .i64 (-1)))), none⟩] (fullB 1) false)
.ret)))
def rv : List RV := [.tmp 4]
theorem c : cK Try.prog Try.f99.ntmps (Try.f99.body.getD .ret) = some s := by kernel_rfl
theorem b : Try.f99.body = some (Try.f99.body.getD .ret) := by kernel_rfl
theorem r : cRV Try.prog Try.f99.results.toList = some rv := by kernel_rfl
theorem ca : Callable Try.prog 99 = true := by kernel_rfl
theorem enter {args : List SV} {F : Hp} {k nk : Nat} {Q : SV → Hp → Prop} (hargs : SV.oks (fun n => decide (n < k)) args = true) (hF : F.ok (fun n => decide (n < k)) = true) (hN : args.length ≤ 19)
    (h : SW Try.prog 19 k s ⟨argE 0 args, F, k⟩ fun e st' => match e with | .normal => Fin k nk rv Q st' | .ret => Fin k nk rv Q st' | _ => False) : SB Try.prog 99 args F k nk Q :=
  SB.of_body Try.func99 b c r ca hargs hF hN h
end slices_IndexFunc_Lapi_Op_api_Op
namespace tree_Tree_up_1
abbrev f : Nat := 100
def s : SCo := (.seq
(.reg [⟨(some 7), .load none (.t 1), none⟩,
⟨(some 8), .nilc (.t 7), none⟩,
⟨(some 9), .fld 0 (.t 8), none⟩,
⟨(some 10), .load none (.t 9), none⟩,
⟨(some 11), .load (some 2) (.t 2), none⟩,
⟨(some 12), .look [true, true] true (.agg [(.d (.int .u8 0)), (.d (.int .u32 0)), (.d (.int .u8 0)), (.d (.int .u32 0)), (.d (.int .u8 0)), (.d (.int .u32 0)), (.d (.int .u32 0)), (.d (.int .u8 0)), (.d (.int .u8 0)), (.d (.int .u64 0)), (.d (.int .i64 0))]) (.t 10) (.t 11) true, none⟩,
⟨(some 6), .mv (.t 12), none⟩,
⟨(some 13), .ext 0 (.t 6), none⟩,
⟨(some 14), .ext 1 (.t 6), none⟩,
⟨(some 4), .alloc 51 [(.d (.int .u8 0)), (.d (.int .u32 0)), (.d (.int .u8 0)), (.d (.int .u32 0)), (.d (.int .u8 0)), (.d (.int .u32 0)), (.d (.int .u32 0)), (.d (.int .u8 0)), (.d (.int .u8 0)), (.d (.int .u64 0)), (.d (.int .i64 0))], none⟩,
⟨none, .store 11 (.t 4) (.t 13), none⟩,
⟨(some 5), .mv (.t 14), none⟩] [0,
1,
3,
7,
0,
31,
63,
127,
127,
0,
767,
2047] true)
(.block 0
(.loop
(.seq
 (.seq
 (.reg [⟨(some 15), .mv (.t 5), none⟩,
⟨(some 16), .mv (.t 15), none⟩,
⟨(some 17), .mv (.t 0), some (16, true)⟩,
⟨(some 18), .load (some 11) (.t 4), some (16, true)⟩,
⟨(some 19), .call (.t 17) [(.t 18)], some (16, true)⟩,
⟨(some 20), .pick (.t 16) (.t 19) (.k (.d (.bool false))), none⟩,
⟨(some 21), .mv (.t 20), none⟩,
⟨(some 22), .fld 10 (.t 4), some (21, true)⟩,
⟨(some 23), .load none (.t 22), some (21, true)⟩,
⟨(some 24), .bin .gtr (.t 23) (.k (.d (.int .i64 0))), some (21, true)⟩,
⟨(some 25), .pick (.t 21) (.t 24) (.k (.d (.bool false))), none⟩] (fullB 11) false)
 (.cond (.t 25)
 .skip
 (.exit 0)))
 (.seq
 (.block 1
 (.reg [⟨(some 27), .load none (.t 1), none⟩,
⟨(some 28), .nilc (.t 27), none⟩,
⟨(some 29), .fld 0 (.t 28), none⟩,
⟨(some 30), .load none (.t 29), none⟩,
⟨(some 31), .fld 4 (.t 4), none⟩,
⟨(some 32), .load (some 2) (.t 31), none⟩,
⟨(some 33), .look [true, true] true (.agg [(.d (.int .u8 0)), (.d (.int .u32 0)), (.d (.int .u8 0)), (.d (.int .u32 0)), (.d (.int .u8 0)), (.d (.int .u32 0)), (.d (.int .u32 0)), (.d (.int .u8 0)), (.d (.int .u8 0)), (.d (.int .u64 0)), (.d (.int .i64 0))]) (.t 30) (.t 32) true, none⟩,
⟨(some 26), .mv (.t 33), none⟩,
⟨(some 34), .ext 0 (.t 26), none⟩,
⟨(some 35), .ext 1 (.t 26), none⟩,
⟨none, .store 11 (.t 4) (.t 34), none⟩,
⟨(some 5), .mv (.t 35), none⟩] [0,
1,
3,
7,
0,
16,
63,
127,
255,
255,
511,
2047] true))
 (.seq
 (.reg [⟨(some 36), .load (some 11) (.t 4), none⟩] (fullB 1) false)
 (.reg [⟨(some 4), .alloc 51 [(.d (.int .u8 0)), (.d (.int .u32 0)), (.d (.int .u8 0)), (.d (.int .u32 0)), (.d (.int .u8 0)), (.d (.int .u32 0)), (.d (.int .u32 0)), (.d (.int .u8 0)), (.d (.int .u8 0)), (.d (.int .u64 0)), (.d (.int .i64 0))], none⟩,
⟨none, .store 11 (.t 4) (.t 36), none⟩] (fullB 2) false)))))))
def rv : List RV := []
theorem c : cK Try.prog Try.f100.ntmps (Try.f100.body.getD .ret) = some s := by kernel_rfl
theorem b : Try.f100.body = some (Try.f100.body.getD .ret) := by kernel_rfl
theorem r : cRV Try.prog Try.f100.results.toList = some rv := by kernel_rfl
theorem ca : Callable Try.prog 100 = true := by kernel_rfl
theorem enter {args : List SV} {F : Hp} {k nk : Nat} {Q : SV → Hp → Prop} (hargs : SV.oks (fun n => decide (n < k)) args = true) (hF : F.ok (fun n => decide (n < k)) = true) (hN : args.length ≤ 37)
    (h : SW Try.prog 37 k s ⟨argE 0 args, F, k⟩ fun e st' => match e with | .normal => Fin k nk rv Q st' | .ret => Fin k nk rv Q st' | _ => False) : SB Try.prog 100 args F k nk Q :=
  SB.of_body Try.func100 b c r ca hargs hF hN h
end tree_Tree_up_1
namespace ref12_May
end ref12_May
namespace ref04_Merge
end ref04_Merge
namespace ref04_Meet
end ref04_Meet
namespace vector_Merge_1
end vector_Merge_1
namespace vector_each_1
end vector_each_1
namespace vector_Covers
abbrev f : Nat := 113
def s : SCo := (.seq
(.reg [⟨(some 2), .box 25 (.t 0), none⟩,
⟨(some 3), .box 37 (.t 1), none⟩,
⟨(some 4), .mv (.k (.d (.bool false))), none⟩] (fullB 3) false)
(.seq
(.reg [⟨(some 5), .load (some 2) (.t 3), none⟩,
⟨(some 6), .call (.k (.fn (.func 115) [] [])) [(.t 5)], none⟩,
⟨(some 7), .mv (.t 6), none⟩,
⟨(some 8), .fld 0 (.t 3), some (7, true)⟩,
⟨(some 9), .load none (.t 8), some (7, true)⟩,
⟨(some 10), .idxA 8 1 (.t 2) (.t 9), some (7, true)⟩,
⟨(some 11), .load none (.t 10), some (7, true)⟩,
⟨(some 12), .fld 1 (.t 3), some (7, true)⟩,
⟨(some 13), .load none (.t 12), some (7, true)⟩,
⟨(some 14), .bin .geq (.t 11) (.t 13), some (7, true)⟩,
⟨(some 15), .pick (.t 7) (.t 14) (.k (.d (.bool false))), none⟩,
⟨(some 4), .mv (.t 15), none⟩] [0,
1,
3,
7,
15,
31,
63,
7,
135,
511,
1023,
2047] true)
.ret))
def rv : List RV := [.tmp 4]
theorem c : cK Try.prog Try.f113.ntmps (Try.f113.body.getD .ret) = some s := by kernel_rfl
theorem b : Try.f113.body = some (Try.f113.body.getD .ret) := by kernel_rfl
theorem r : cRV Try.prog Try.f113.results.toList = some rv := by kernel_rfl
theorem ca : Callable Try.prog 113 = true := by kernel_rfl
theorem enter {args : List SV} {F : Hp} {k nk : Nat} {Q : SV → Hp → Prop} (hargs : SV.oks (fun n => decide (n < k)) args = true) (hF : F.ok (fun n => decide (n < k)) = true) (hN : args.length ≤ 16)
    (h : SW Try.prog 16 k s ⟨argE 0 args, F, k⟩ fun e st' => match e with | .normal => Fin k nk rv Q st' | .ret => Fin k nk rv Q st' | _ => False) : SB Try.prog 113 args F k nk Q :=
  SB.of_body Try.func113 b c r ca hargs hF hN h
end vector_Covers
namespace dot_May
abbrev f : Nat := 115
def s : SCo := (.seq
(.reg [⟨(some 1), .box 37 (.t 0), none⟩,
⟨(some 2), .mv (.k (.d (.bool false))), none⟩] (fullB 2) false)
(.seq
(.reg [⟨(some 3), .fld 0 (.t 1), none⟩,
⟨(some 4), .load none (.t 3), none⟩,
⟨(some 5), .bin .lss (.t 4) (.k (.d (.int .u8 8))), none⟩,
⟨(some 6), .mv (.t 5), none⟩,
⟨(some 7), .fld 1 (.t 1), some (6, true)⟩,
⟨(some 8), .load none (.t 7), some (6, true)⟩,
⟨(some 9), .bin .gtr (.t 8) (.k (.d (.int .u32 0))), some (6, true)⟩,
⟨(some 10), .pick (.t 6) (.t 9) (.k (.d (.bool false))), none⟩,
⟨(some 2), .mv (.t 10), none⟩] (fullB 9) false)
.ret))
def rv : List RV := [.tmp 2]
theorem c : cK Try.prog Try.f115.ntmps (Try.f115.body.getD .ret) = some s := by kernel_rfl
theorem b : Try.f115.body = some (Try.f115.body.getD .ret) := by kernel_rfl
theorem r : cRV Try.prog Try.f115.results.toList = some rv := by kernel_rfl
theorem ca : Callable Try.prog 115 = true := by kernel_rfl
theorem enter {args : List SV} {F : Hp} {k nk : Nat} {Q : SV → Hp → Prop} (hargs : SV.oks (fun n => decide (n < k)) args = true) (hF : F.ok (fun n => decide (n < k)) = true) (hN : args.length ≤ 11)
    (h : SW Try.prog 11 k s ⟨argE 0 args, F, k⟩ fun e st' => match e with | .normal => Fin k nk rv Q st' | .ret => Fin k nk rv Q st' | _ => False) : SB Try.prog 115 args F k nk Q :=
  SB.of_body Try.func115 b c r ca hargs hF hN h
end dot_May
end Go.Proofs.Ytacdkgkpoelhdaa
