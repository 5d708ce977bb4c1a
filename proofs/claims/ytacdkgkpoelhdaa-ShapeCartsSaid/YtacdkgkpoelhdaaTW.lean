/-
  The code of more functions in the small form, by program (gen.py, more.py).
-/
import Derived.Test.YtacdkgkpoelhdaaTV
set_option linter.unusedVariables false
set_option linter.unusedSimpArgs false
set_option linter.unusedSectionVars false
namespace Go.Proofs.Ytacdkgkpoelhdaa
open Go.Sl Go.Proofs
namespace law17_ShapeStays
def s : SCo := (.seq
(.reg [⟨(some 6), .mv (.k (.d (.bool false))), none⟩] (fullB 1) false)
(.seq
(.seq
(.reg [⟨(some 14), .mv (.t 0), none⟩,
⟨(some 15), .call (.k (.fn (.func 11) [] [])) [(.t 14)], none⟩,
⟨(some 16), .mv (.t 15), none⟩,
⟨(some 17), .mv (.t 0), some (16, false)⟩,
⟨(some 18), .mv (.t 1), some (16, false)⟩,
⟨(some 19), .call (.k (.fn (.func 10) [] [])) [(.t 17), (.t 18)], some (16, false)⟩,
⟨(some 20), .bin .neq (.t 19) (.k (.d (.int .i64 0))), some (16, false)⟩,
⟨(some 21), .pick (.t 16) (.k (.d (.bool true))) (.t 20), none⟩] (fullB 8) false)
(.cond (.t 21)
 (.seq
 (.reg [⟨(some 22), .call (.k (.fn (.func 32) [] [])) [], none⟩,
⟨(some 6), .mv (.t 22), none⟩] (fullB 2) false)
 .ret)
 .skip))
(.seq
(.reg [⟨(some 23), .mv (.t 0), none⟩,
⟨(some 24), .call (.k (.fn (.func 20) [] [])) [(.t 23)], none⟩,
⟨(some 7), .mv (.t 24), none⟩] (fullB 3) false)
(.seq
 (.reg [⟨(some 25), .mv (.t 2), none⟩,
⟨(some 26), .conv .i64 (.t 25), none⟩,
⟨(some 27), .mv (.t 7), none⟩,
⟨(some 28), .len (.t 27), none⟩,
⟨(some 29), .bin .add (.t 28) (.k (.d (.int .i64 1))), none⟩,
⟨(some 30), .bin .rem (.t 26) (.t 29), none⟩,
⟨(some 8), .mv (.t 30), none⟩] (fullB 7) false)
 (.seq
 (.reg [⟨(some 31), .mv (.t 7), none⟩,
⟨(some 32), .mv (.t 8), none⟩,
⟨(some 33), .slc 29 (.t 31) none (some (.t 32)), none⟩,
⟨(some 34), .call (.k (.fn (.func 33) [] [])) [(.t 33)], none⟩,
⟨(some 35), .mv (.t 0), none⟩,
⟨(some 36), .call (.k (.fn (.func 33) [] [])) [(.t 35)], none⟩,
⟨(some 9), .mv (.t 34), none⟩,
⟨(some 10), .mv (.t 36), none⟩] (fullB 8) false)
 (.seq
 (.seq
 (.reg [⟨(some 37), .mv (.t 9), none⟩,
⟨(some 38), .eqnil false 0 (.t 37), none⟩,
⟨(some 39), .mv (.t 38), none⟩,
⟨(some 40), .mv (.t 10), some (39, false)⟩,
⟨(some 41), .eqnil false 0 (.t 40), some (39, false)⟩,
⟨(some 42), .pick (.t 39) (.k (.d (.bool true))) (.t 41), none⟩] (fullB 6) false)
 (.cond (.t 42)
  (.seq
  (.reg [⟨(some 6), .mv (.k (.d (.bool false))), none⟩] (fullB 1) false)
  .ret)
  .skip))
 (.seq
 (.seq
  (.reg [⟨(some 11), .mv (.k (.d (.int .i64 0))), none⟩] (fullB 1) false)
  (.block 0
  (.loop
  (.seq
  (.seq
   (.reg [⟨(some 43), .mv (.t 11), none⟩,
⟨(some 44), .mv (.t 7), none⟩,
⟨(some 45), .len (.t 44), none⟩,
⟨(some 46), .bin .lss (.t 43) (.t 45), none⟩] (fullB 4) false)
   (.cond (.t 46)
   .skip
   (.exit 0)))
  (.seq
   (.block 1
   (.seq
   (.reg [⟨(some 49), .mv (.t 9), none⟩,
⟨(some 50), .mv (.t 7), none⟩,
⟨(some 51), .mv (.t 11), none⟩,
⟨(some 52), .idxS 29 (.t 50) (.t 51), none⟩,
⟨(some 53), .load (some 29) (.t 52), none⟩,
⟨(some 54), .call (.k (.fn (.func 34) [] [])) [(.t 49), (.t 53)], none⟩,
⟨(some 55), .mv (.t 10), none⟩,
⟨(some 56), .mv (.t 7), none⟩,
⟨(some 57), .mv (.t 11), none⟩,
⟨(some 58), .idxS 29 (.t 56) (.t 57), none⟩,
⟨(some 59), .load (some 29) (.t 58), none⟩,
⟨(some 60), .call (.k (.fn (.func 34) [] [])) [(.t 55), (.t 59)], none⟩,
⟨(some 12), .mv (.t 54), none⟩,
⟨(some 13), .mv (.t 60), none⟩] [0,
0,
0,
6,
14,
31,
0,
0,
0,
384,
896,
2047,
4095,
8191] true)
   (.seq
   (.seq
    (.reg (⟨(some 61), .mv (.t 11), none⟩ ::
⟨(some 62), .mv (.t 8), none⟩ ::
⟨(some 63), .bin .lss (.t 61) (.t 62), none⟩ ::
⟨(some 64), .mv (.t 63), none⟩ ::
⟨(some 65), .mv (.t 12), some (64, true)⟩ ::
⟨(some 66), .mv (.t 13), some (64, true)⟩ ::
⟨(some 67), .bin .neq (.t 65) (.t 66), some (64, true)⟩ ::
⟨(some 68), .mv (.t 67), some (64, true)⟩ ::
⟨(some 69), .mv (.t 9), some (68, false)⟩ ::
⟨(some 70), .mv (.t 7), some (68, false)⟩ ::
⟨(some 71), .mv (.t 11), some (68, false)⟩ ::
⟨(some 72), .idxS 29 (.t 70) (.t 71), some (68, false)⟩ ::
⟨(some 73), .fld 0 (.t 72), some (68, false)⟩ ::
⟨(some 74), .load (some 2) (.t 73), some (68, false)⟩ ::
⟨(some 75), .call (.k (.fn (.func 35) [] [])) [(.t 69), (.t 74)], some (68, false)⟩ ::
⟨(some 76), .mv (.t 10), some (68, false)⟩ ::
⟨(some 77), .mv (.t 7), some (68, false)⟩ ::
⟨(some 78), .mv (.t 11), some (68, false)⟩ ::
⟨(some 79), .idxS 29 (.t 77) (.t 78), some (68, false)⟩ ::
⟨(some 80), .fld 0 (.t 79), some (68, false)⟩ ::
⟨(some 81), .load (some 2) (.t 80), some (68, false)⟩ ::
⟨(some 82), .call (.k (.fn (.func 35) [] [])) [(.t 76), (.t 81)], some (68, false)⟩ ::
⟨(some 83), .eqb true (.t 75) (.t 82), some (68, false)⟩ ::
⟨(some 84), .pick (.t 68) (.k (.d (.bool true))) (.t 83), some (64, true)⟩ ::
⟨(some 85), .mv (.t 84), some (64, true)⟩ ::
⟨(some 86), .mv (.t 10), some (85, false)⟩ ::
⟨(some 87), .mv (.t 7), some (85, false)⟩ ::
⟨(some 88), .mv (.t 11), some (85, false)⟩ ::
⟨(some 89), .idxS 29 (.t 87) (.t 88), some (85, false)⟩ ::
⟨(some 90), .fld 0 (.t 89), some (85, false)⟩ ::
⟨(some 91), .load (some 2) (.t 90), some (85, false)⟩ ::
⟨(some 92), .call (.k (.fn (.func 35) [] [])) [(.t 86), (.t 91)], some (85, false)⟩ ::
⟨(some 93), .mv (.t 13), some (85, false)⟩ ::
⟨(some 94), .bin .eql (.t 93) (.k (.d (.int .i64 0))), some (85, false)⟩ ::
⟨(some 95), .eqb true (.t 92) (.t 94), some (85, false)⟩ ::
⟨(some 96), .pick (.t 85) (.k (.d (.bool true))) (.t 95), some (64, true)⟩ ::
⟨(some 97), .pick (.t 64) (.t 96) (.k (.d (.bool false))), none⟩ ::
⟨(some 98), .mv (.t 97), none⟩ ::
⟨(some 99), .mv (.t 11), some (98, false)⟩ ::
⟨(some 100), .mv (.t 8), some (98, false)⟩ ::
⟨(some 101), .bin .geq (.t 99) (.t 100), some (98, false)⟩ ::
⟨(some 102), .mv (.t 101), some (98, false)⟩ ::
⟨(some 103), .mv (.t 9), some (102, true)⟩ ::
⟨(some 104), .mv (.t 7), some (102, true)⟩ ::
⟨(some 105), .mv (.t 11), some (102, true)⟩ ::
⟨(some 106), .idxS 29 (.t 104) (.t 105), some (102, true)⟩ ::
⟨(some 107), .fld 0 (.t 106), some (102, true)⟩ ::
⟨(some 108), .load (some 2) (.t 107), some (102, true)⟩ ::
⟨(some 109), .call (.k (.fn (.func 35) [] [])) [(.t 103), (.t 108)], some (102, true)⟩ ::
⟨(some 110), .pick (.t 102) (.t 109) (.k (.d (.bool false))), some (98, false)⟩ ::
⟨(some 111), .pick (.t 98) (.k (.d (.bool true))) (.t 110), none⟩ :: []) (0 ::
0 ::
3 ::
7 ::
15 ::
15 ::
63 ::
127 ::
255 ::
255 ::
255 ::
1791 ::
3839 ::
7935 ::
16383 ::
255 ::
255 ::
255 ::
196863 ::
459007 ::
983295 ::
2097151 ::
4194303 ::
8388607 ::
16777215 ::
33554431 ::
33554431 ::
33554431 ::
234881023 ::
503316479 ::
1040187391 ::
2147483647 ::
33554431 ::
4328521727 ::
17179869183 ::
34359738367 ::
68719476735 ::
137438953471 ::
274877906943 ::
274877906943 ::
1099511627775 ::
2199023255551 ::
4398046511103 ::
4398046511103 ::
4398046511103 ::
30786325577727 ::
65970697666559 ::
136339441844223 ::
281474976710655 ::
562949953421311 ::
1125899906842623 :: []) true)
    (.cond (.t 111)
    (.seq
    (.reg [⟨(some 6), .mv (.k (.d (.bool false))), none⟩] (fullB 1) false)
    .ret)
    .skip))
   (.seq
    (.reg [⟨(some 112), .mv (.t 12), none⟩,
⟨(some 113), .bin .eql (.t 112) (.k (.d (.int .i64 0))), none⟩,
⟨(some 114), .mv (.t 113), none⟩,
⟨(some 115), .mv (.t 13), some (114, true)⟩,
⟨(some 116), .bin .neq (.t 115) (.k (.d (.int .i64 0))), some (114, true)⟩,
⟨(some 117), .pick (.t 114) (.t 116) (.k (.d (.bool false))), none⟩] (fullB 6) false)
    (.cond (.t 117)
    (.seq
    (.reg [⟨(some 6), .mv (.k (.d (.bool false))), none⟩] (fullB 1) false)
    .ret)
    .skip)))))
   (.reg [⟨(some 47), .mv (.t 11), none⟩,
⟨(some 48), .bin .add (.t 47) (.k (.d (.int .i64 1))), none⟩,
⟨(some 11), .mv (.t 48), none⟩] (fullB 3) false))))))
 (.seq
  (.reg [⟨(some 118), .call (.k (.fn (.func 32) [] [])) [], none⟩,
⟨(some 6), .mv (.t 118), none⟩] (fullB 2) false)
  .ret))))))))
def rv : List RV := [.tmp 6]
theorem c : cK Try.prog Try.f7.ntmps (Try.f7.body.getD .ret) = some s := by kernel_rfl
theorem b : Try.f7.body = some (Try.f7.body.getD .ret) := by kernel_rfl
theorem r : cRV Try.prog Try.f7.results.toList = some rv := by kernel_rfl
theorem ca : Callable Try.prog 7 = true := by kernel_rfl
theorem enter {args : List SV} {F : Hp} {k nk : Nat} {Q : SV → Hp → Prop} (hargs : SV.oks (fun n => decide (n < k)) args = true) (hF : F.ok (fun n => decide (n < k)) = true) (hN : args.length ≤ 119)
    (h : SW Try.prog 119 k s ⟨argE 0 args, F, k⟩ fun e st' => match e with | .normal => Fin k nk rv Q st' | .ret => Fin k nk rv Q st' | _ => False) : SB Try.prog 7 args F k nk Q :=
  SB.of_body Try.func7 b c r ca hargs hF hN h
end law17_ShapeStays
namespace law17_ShapeCarts
abbrev f : Nat := 8
def s : SCo := (.seq
(.reg [⟨(some 4), .mv (.k (.d (.bool false))), none⟩] (fullB 1) false)
(.seq
(.seq
(.reg [⟨(some 9), .mv (.t 0), none⟩,
⟨(some 10), .call (.k (.fn (.func 11) [] [])) [(.t 9)], none⟩,
⟨(some 11), .mv (.t 10), none⟩,
⟨(some 12), .mv (.t 0), some (11, false)⟩,
⟨(some 13), .mv (.t 1), some (11, false)⟩,
⟨(some 14), .call (.k (.fn (.func 10) [] [])) [(.t 12), (.t 13)], some (11, false)⟩,
⟨(some 15), .bin .neq (.t 14) (.k (.d (.int .i64 0))), some (11, false)⟩,
⟨(some 16), .pick (.t 11) (.k (.d (.bool true))) (.t 15), none⟩] (fullB 8) false)
(.cond (.t 16)
 (.seq
 (.reg [⟨(some 17), .call (.k (.fn (.func 32) [] [])) [], none⟩,
⟨(some 4), .mv (.t 17), none⟩] (fullB 2) false)
 .ret)
 .skip))
(.seq
(.reg [⟨(some 18), .mv (.t 0), none⟩,
⟨(some 19), .call (.k (.fn (.func 33) [] [])) [(.t 18)], none⟩,
⟨(some 5), .mv (.t 19), none⟩] (fullB 3) false)
(.seq
 (.seq
 (.reg [⟨(some 6), .mv (.k (.d (.int .i64 0))), none⟩] (fullB 1) false)
 (.block 0
 (.loop
 (.seq
  (.seq
  (.reg [⟨(some 20), .mv (.t 6), none⟩,
⟨(some 21), .mv (.t 0), none⟩,
⟨(some 22), .len (.t 21), none⟩,
⟨(some 23), .bin .lss (.t 20) (.t 22), none⟩] (fullB 4) false)
  (.cond (.t 23)
  .skip
  (.exit 0)))
  (.seq
  (.block 1
  (.seq
  (.reg [⟨(some 7), .mv (.k (.d .nils)), none⟩] (fullB 1) false)
  (.seq
   (.seq
   (.reg [⟨(some 8), .mv (.k (.d (.int .i64 0))), none⟩] (fullB 1) false)
   (.block 2
   (.loop
   (.seq
    (.seq
    (.reg [⟨(some 26), .mv (.t 8), none⟩,
⟨(some 27), .mv (.t 0), none⟩,
⟨(some 28), .len (.t 27), none⟩,
⟨(some 29), .bin .lss (.t 26) (.t 28), none⟩] (fullB 4) false)
    (.cond (.t 29)
    .skip
    (.exit 2)))
    (.seq
    (.block 3
    (.seq
    (.reg (⟨(some 32), .mv (.t 0), none⟩ ::
⟨(some 33), .mv (.t 8), none⟩ ::
⟨(some 34), .idxS 29 (.t 32) (.t 33), none⟩ ::
⟨(some 35), .fld 12 (.t 34), none⟩ ::
⟨(some 36), .load (some 2) (.t 35), none⟩ ::
⟨(some 37), .mv (.t 0), none⟩ ::
⟨(some 38), .mv (.t 6), none⟩ ::
⟨(some 39), .idxS 29 (.t 37) (.t 38), none⟩ ::
⟨(some 40), .fld 12 (.t 39), none⟩ ::
⟨(some 41), .load (some 2) (.t 40), none⟩ ::
⟨(some 42), .eqv false [true, true] (.t 36) (.t 41), none⟩ ::
⟨(some 43), .mv (.t 42), none⟩ ::
⟨(some 44), .mv (.t 0), some (43, false)⟩ ::
⟨(some 45), .mv (.t 8), some (43, false)⟩ ::
⟨(some 46), .idxS 29 (.t 44) (.t 45), some (43, false)⟩ ::
⟨(some 47), .fld 0 (.t 46), some (43, false)⟩ ::
⟨(some 48), .load (some 2) (.t 47), some (43, false)⟩ ::
⟨(some 49), .mv (.t 0), some (43, false)⟩ ::
⟨(some 50), .mv (.t 6), some (43, false)⟩ ::
⟨(some 51), .idxS 29 (.t 49) (.t 50), some (43, false)⟩ ::
⟨(some 52), .fld 12 (.t 51), some (43, false)⟩ ::
⟨(some 53), .load (some 2) (.t 52), some (43, false)⟩ ::
⟨(some 54), .eqv false [true, true] (.t 48) (.t 53), some (43, false)⟩ ::
⟨(some 55), .pick (.t 43) (.k (.d (.bool true))) (.t 54), none⟩ :: []) (0 ::
0 ::
3 ::
7 ::
15 ::
0 ::
0 ::
96 ::
224 ::
480 ::
1023 ::
2047 ::
4095 ::
4095 ::
16383 ::
32767 ::
65535 ::
4095 ::
4095 ::
397311 ::
921599 ::
1970175 ::
4194303 ::
8388607 :: []) true)
    (.cond (.t 55)
     (.reg [⟨(some 56), .mv (.t 7), none⟩,
⟨(some 57), .mv (.t 0), none⟩,
⟨(some 58), .mv (.t 8), none⟩,
⟨(some 59), .idxS 29 (.t 57) (.t 58), none⟩,
⟨(some 60), .load (some 29) (.t 59), none⟩,
⟨(some 61), .bsl 41 29 1 [(.d (.int .u8 0)), (.d (.int .u32 0)), (.d (.int .u32 0)), (.d (.int .u32 0)), (.d (.int .u32 0)), (.d (.int .u32 0)), (.d (.int .u32 0)), (.d (.int .u32 0)), (.d (.int .u32 0)), (.d (.int .u32 0)), (.d (.int .u64 0)), (.d (.int .u32 0)), (.d (.int .u8 0)), (.d (.int .u32 0)), (.d (.int .u8 0)), (.d (.int .u8 0)), (.d (.int .u32 0)), (.d (.int .u32 0)), (.d (.int .u8 0)), (.d (.int .u8 0)), (.d (.int .u64 0)), (.d (.int .u8 0)), (.d (.int .u32 0)), (.d (.int .u8 0)), (.d (.int .u32 0)), (.d (.int .u32 0)), (.d (.int .u32 0)), (.d (.int .u32 0)), (.d .nils)] [(0, 29, (.t 60))], none⟩,
⟨(some 62), .app 41 29 144 (.t 56) (.t 61), none⟩,
⟨(some 7), .mv (.t 62), none⟩] (fullB 8) false)
     .skip)))
    (.reg [⟨(some 30), .mv (.t 8), none⟩,
⟨(some 31), .bin .add (.t 30) (.k (.d (.int .i64 1))), none⟩,
⟨(some 8), .mv (.t 31), none⟩] (fullB 3) false))))))
   (.seq
   (.reg [⟨(some 63), .mv (.t 7), none⟩,
⟨(some 64), .call (.k (.fn (.func 33) [] [])) [(.t 63)], none⟩,
⟨(some 65), .mv (.t 0), none⟩,
⟨(some 66), .mv (.t 6), none⟩,
⟨(some 67), .idxS 29 (.t 65) (.t 66), none⟩,
⟨(some 68), .load (some 29) (.t 67), none⟩,
⟨(some 69), .call (.k (.fn (.func 34) [] [])) [(.t 64), (.t 68)], none⟩,
⟨(some 70), .mv (.t 5), none⟩,
⟨(some 71), .mv (.t 0), none⟩,
⟨(some 72), .mv (.t 6), none⟩,
⟨(some 73), .idxS 29 (.t 71) (.t 72), none⟩,
⟨(some 74), .load (some 29) (.t 73), none⟩,
⟨(some 75), .call (.k (.fn (.func 34) [] [])) [(.t 70), (.t 74)], none⟩,
⟨(some 76), .bin .neq (.t 69) (.t 75), none⟩] [0,
1,
0,
0,
12,
28,
63,
0,
0,
0,
768,
1792,
4095,
8191] true)
   (.cond (.t 76)
   (.seq
   (.reg [⟨(some 4), .mv (.k (.d (.bool false))), none⟩] (fullB 1) false)
   .ret)
   .skip)))))
  (.reg [⟨(some 24), .mv (.t 6), none⟩,
⟨(some 25), .bin .add (.t 24) (.k (.d (.int .i64 1))), none⟩,
⟨(some 6), .mv (.t 25), none⟩] (fullB 3) false))))))
 (.seq
 (.reg [⟨(some 77), .call (.k (.fn (.func 32) [] [])) [], none⟩,
⟨(some 4), .mv (.t 77), none⟩] (fullB 2) false)
 .ret)))))
def rv : List RV := [.tmp 4]
theorem c : cK Try.prog Try.f8.ntmps (Try.f8.body.getD .ret) = some s := by kernel_rfl
theorem b : Try.f8.body = some (Try.f8.body.getD .ret) := by kernel_rfl
theorem r : cRV Try.prog Try.f8.results.toList = some rv := by kernel_rfl
theorem ca : Callable Try.prog 8 = true := by kernel_rfl
theorem enter {args : List SV} {F : Hp} {k nk : Nat} {Q : SV → Hp → Prop} (hargs : SV.oks (fun n => decide (n < k)) args = true) (hF : F.ok (fun n => decide (n < k)) = true) (hN : args.length ≤ 78)
    (h : SW Try.prog 78 k s ⟨argE 0 args, F, k⟩ fun e st' => match e with | .normal => Fin k nk rv Q st' | .ret => Fin k nk rv Q st' | _ => False) : SB Try.prog 8 args F k nk Q :=
  SB.of_body Try.func8 b c r ca hargs hF hN h
end law17_ShapeCarts
namespace law17_head
abbrev f : Nat := 32
def s : SCo := (.seq
(.reg [⟨(some 0), .mv (.k (.d (.bool false))), none⟩] (fullB 1) false)
(.seq
(.reg [⟨(some 4), .call (.k (.fn (.func 64) [] [])) [], none⟩,
⟨(some 5), .call (.k (.fn (.func 33) [] [])) [(.t 4)], none⟩,
⟨(some 1), .mv (.t 5), none⟩] (fullB 3) false)
(.seq
(.seq
 (.reg [⟨(some 6), .mv (.t 1), none⟩,
⟨(some 7), .eqnil false 0 (.t 6), none⟩] (fullB 2) false)
 (.cond (.t 7)
 (.seq
 (.reg [⟨(some 0), .mv (.k (.d (.bool false))), none⟩] (fullB 1) false)
 .ret)
 .skip))
(.seq
 (.reg [⟨(some 8), .call (.k (.fn (.func 65) [] [])) [(.k (.d (.int .u32 5))), (.k (.d (.int .u8 8))), (.k (.d (.int .u32 2))), (.k (.d (.int .u32 2)))], none⟩,
⟨(some 9), .call (.k (.fn (.func 65) [] [])) [(.k (.d (.int .u32 5))), (.k (.d (.int .u8 4))), (.k (.d (.int .u32 2))), (.k (.d (.int .u32 2)))], none⟩,
⟨(some 10), .call (.k (.fn (.func 66) [] [])) [(.t 9), (.k (.d (.int .u32 3))), (.k (.d (.int .u32 0)))], none⟩,
⟨(some 2), .alloc 41 [(.d (.int .u8 0)), (.d (.int .u32 0)), (.d (.int .u32 0)), (.d (.int .u32 0)), (.d (.int .u32 0)), (.d (.int .u32 0)), (.d (.int .u32 0)), (.d (.int .u32 0)), (.d (.int .u32 0)), (.d (.int .u32 0)), (.d (.int .u64 0)), (.d (.int .u32 0)), (.d (.int .u8 0)), (.d (.int .u32 0)), (.d (.int .u8 0)), (.d (.int .u8 0)), (.d (.int .u32 0)), (.d (.int .u32 0)), (.d (.int .u8 0)), (.d (.int .u8 0)), (.d (.int .u64 0)), (.d (.int .u8 0)), (.d (.int .u32 0)), (.d (.int .u8 0)), (.d (.int .u32 0)), (.d (.int .u32 0)), (.d (.int .u32 0)), (.d (.int .u32 0)), (.d .nils)], none⟩,
⟨(some 3), .alloc 41 [(.d (.int .u8 0)), (.d (.int .u32 0)), (.d (.int .u32 0)), (.d (.int .u32 0)), (.d (.int .u32 0)), (.d (.int .u32 0)), (.d (.int .u32 0)), (.d (.int .u32 0)), (.d (.int .u32 0)), (.d (.int .u32 0)), (.d (.int .u64 0)), (.d (.int .u32 0)), (.d (.int .u8 0)), (.d (.int .u32 0)), (.d (.int .u8 0)), (.d (.int .u8 0)), (.d (.int .u32 0)), (.d (.int .u32 0)), (.d (.int .u8 0)), (.d (.int .u8 0)), (.d (.int .u64 0)), (.d (.int .u8 0)), (.d (.int .u32 0)), (.d (.int .u8 0)), (.d (.int .u32 0)), (.d (.int .u32 0)), (.d (.int .u32 0)), (.d (.int .u32 0)), (.d .nils)], none⟩,
⟨none, .store 29 (.t 2) (.t 8), none⟩,
⟨none, .store 29 (.t 3) (.t 10), none⟩] (fullB 7) false)
 (.seq
 (.reg [⟨(some 11), .bld [(.d (.int .u8 0)), (.d (.int .u32 0))] [(1, 1, (.k (.d (.int .u32 3))))], none⟩,
⟨(some 12), .bld [(.d (.int .u8 0)), (.d (.int .u32 0))] [(1, 1, (.k (.d (.int .u32 4))))], none⟩,
⟨(some 13), .bld [(.d (.int .u8 0)), (.d (.int .u32 0)), (.d (.int .u8 0)), (.d (.int .u32 0))] [(0, 2, (.t 11)), (2, 2, (.t 12))], none⟩,
⟨(some 14), .bsl 120 4 1 [(.d (.int .u8 0)), (.d (.int .u32 0)), (.d (.int .u8 0)), (.d (.int .u32 0))] [(0, 4, (.t 13))], none⟩,
⟨(some 15), .fld 28 (.t 2), none⟩,
⟨none, .store 1 (.t 15) (.t 14), none⟩] (fullB 6) false)
 (.seq
 (.reg [⟨(some 16), .bld [(.d (.int .u8 0)), (.d (.int .u32 0))] [(1, 1, (.k (.d (.int .u32 3))))], none⟩,
⟨(some 17), .fld 12 (.t 3), none⟩,
⟨none, .store 2 (.t 17) (.t 16), none⟩] (fullB 3) false)
 (.seq
 (.reg (⟨(some 18), .mv (.t 1), none⟩ ::
⟨(some 19), .call (.k (.fn (.func 65) [] [])) [(.k (.d (.int .u32 5))), (.k (.d (.int .u8 6))), (.k (.d (.int .u32 1))), (.k (.d (.int .u32 1)))], none⟩ ::
⟨(some 20), .call (.k (.fn (.func 66) [] [])) [(.t 19), (.k (.d (.int .u32 3))), (.k (.d (.int .u32 4)))], none⟩ ::
⟨(some 21), .call (.k (.fn (.func 34) [] [])) [(.t 18), (.t 20)], none⟩ ::
⟨(some 22), .bin .eql (.t 21) (.k (.d (.int .i64 0))), none⟩ ::
⟨(some 23), .mv (.t 22), none⟩ ::
⟨(some 24), .mv (.t 1), some (23, true)⟩ ::
⟨(some 25), .call (.k (.fn (.func 65) [] [])) [(.k (.d (.int .u32 5))), (.k (.d (.int .u8 6))), (.k (.d (.int .u32 1))), (.k (.d (.int .u32 1)))], some (23, true)⟩ ::
⟨(some 26), .call (.k (.fn (.func 66) [] [])) [(.t 25), (.k (.d (.int .u32 3))), (.k (.d (.int .u32 2)))], some (23, true)⟩ ::
⟨(some 27), .call (.k (.fn (.func 34) [] [])) [(.t 24), (.t 26)], some (23, true)⟩ ::
⟨(some 28), .bin .eql (.t 27) (.k (.d (.int .i64 276))), some (23, true)⟩ ::
⟨(some 29), .pick (.t 23) (.t 28) (.k (.d (.bool false))), none⟩ ::
⟨(some 30), .mv (.t 29), none⟩ ::
⟨(some 31), .mv (.t 1), some (30, true)⟩ ::
⟨(some 32), .call (.k (.fn (.func 65) [] [])) [(.k (.d (.int .u32 5))), (.k (.d (.int .u8 6))), (.k (.d (.int .u32 2))), (.k (.d (.int .u32 2)))], some (30, true)⟩ ::
⟨(some 33), .call (.k (.fn (.func 66) [] [])) [(.t 32), (.k (.d (.int .u32 3))), (.k (.d (.int .u32 4)))], some (30, true)⟩ ::
⟨(some 34), .call (.k (.fn (.func 34) [] [])) [(.t 31), (.t 33)], some (30, true)⟩ ::
⟨(some 35), .bin .eql (.t 34) (.k (.d (.int .i64 274))), some (30, true)⟩ ::
⟨(some 36), .pick (.t 30) (.t 35) (.k (.d (.bool false))), none⟩ ::
⟨(some 37), .mv (.t 36), none⟩ ::
⟨(some 38), .mv (.t 1), some (37, true)⟩ ::
⟨(some 39), .call (.k (.fn (.func 65) [] [])) [(.k (.d (.int .u32 5))), (.k (.d (.int .u8 2))), (.k (.d (.int .u32 1))), (.k (.d (.int .u32 1)))], some (37, true)⟩ ::
⟨(some 40), .call (.k (.fn (.func 66) [] [])) [(.t 39), (.k (.d (.int .u32 2))), (.k (.d (.int .u32 0)))], some (37, true)⟩ ::
⟨(some 41), .call (.k (.fn (.func 34) [] [])) [(.t 38), (.t 40)], some (37, true)⟩ ::
⟨(some 42), .bin .eql (.t 41) (.k (.d (.int .i64 0))), some (37, true)⟩ ::
⟨(some 43), .pick (.t 37) (.t 42) (.k (.d (.bool false))), none⟩ ::
⟨(some 44), .mv (.t 43), none⟩ ::
⟨(some 45), .mv (.t 1), some (44, true)⟩ ::
⟨(some 46), .call (.k (.fn (.func 65) [] [])) [(.k (.d (.int .u32 5))), (.k (.d (.int .u8 2))), (.k (.d (.int .u32 1))), (.k (.d (.int .u32 1)))], some (44, true)⟩ ::
⟨(some 47), .call (.k (.fn (.func 66) [] [])) [(.t 46), (.k (.d (.int .u32 1))), (.k (.d (.int .u32 0)))], some (44, true)⟩ ::
⟨(some 48), .call (.k (.fn (.func 34) [] [])) [(.t 45), (.t 47)], some (44, true)⟩ ::
⟨(some 49), .bin .eql (.t 48) (.k (.d (.int .i64 276))), some (44, true)⟩ ::
⟨(some 50), .pick (.t 44) (.t 49) (.k (.d (.bool false))), none⟩ ::
⟨(some 51), .mv (.t 50), none⟩ ::
⟨(some 52), .mv (.t 1), some (51, true)⟩ ::
⟨(some 53), .load (some 29) (.t 2), some (51, true)⟩ ::
⟨(some 54), .call (.k (.fn (.func 34) [] [])) [(.t 52), (.t 53)], some (51, true)⟩ ::
⟨(some 55), .bin .eql (.t 54) (.k (.d (.int .i64 0))), some (51, true)⟩ ::
⟨(some 56), .pick (.t 51) (.t 55) (.k (.d (.bool false))), none⟩ ::
⟨(some 57), .mv (.t 56), none⟩ ::
⟨(some 58), .mv (.t 1), some (57, true)⟩ ::
⟨(some 59), .call (.k (.fn (.func 65) [] [])) [(.k (.d (.int .u32 5))), (.k (.d (.int .u8 4))), (.k (.d (.int .u32 1))), (.k (.d (.int .u32 2)))], some (57, true)⟩ ::
⟨(some 60), .call (.k (.fn (.func 66) [] [])) [(.t 59), (.k (.d (.int .u32 3))), (.k (.d (.int .u32 0)))], some (57, true)⟩ ::
⟨(some 61), .call (.k (.fn (.func 34) [] [])) [(.t 58), (.t 60)], some (57, true)⟩ ::
⟨(some 62), .bin .eql (.t 61) (.k (.d (.int .i64 273))), some (57, true)⟩ ::
⟨(some 63), .pick (.t 57) (.t 62) (.k (.d (.bool false))), none⟩ ::
⟨(some 64), .mv (.t 63), none⟩ ::
⟨(some 65), .mv (.t 1), some (64, true)⟩ ::
⟨(some 66), .load (some 29) (.t 3), some (64, true)⟩ ::
⟨(some 67), .call (.k (.fn (.func 34) [] [])) [(.t 65), (.t 66)], some (64, true)⟩ ::
⟨(some 68), .bin .eql (.t 67) (.k (.d (.int .i64 271))), some (64, true)⟩ ::
⟨(some 69), .pick (.t 64) (.t 68) (.k (.d (.bool false))), none⟩ ::
⟨(some 70), .mv (.t 69), none⟩ ::
⟨(some 71), .mv (.t 1), some (70, true)⟩ ::
⟨(some 72), .bld [(.d (.int .u8 0)), (.d (.int .u32 0))] [(1, 1, (.k (.d (.int .u32 4))))], some (70, true)⟩ ::
⟨(some 73), .call (.k (.fn (.func 35) [] [])) [(.t 71), (.t 72)], some (70, true)⟩ ::
⟨(some 74), .pick (.t 70) (.t 73) (.k (.d (.bool false))), none⟩ ::
⟨(some 75), .mv (.t 74), none⟩ ::
⟨(some 76), .mv (.t 1), some (75, true)⟩ ::
⟨(some 77), .bld [(.d (.int .u8 0)), (.d (.int .u32 0))] [(1, 1, (.k (.d (.int .u32 5))))], some (75, true)⟩ ::
⟨(some 78), .call (.k (.fn (.func 35) [] [])) [(.t 76), (.t 77)], some (75, true)⟩ ::
⟨(some 79), .not (.t 78), some (75, true)⟩ ::
⟨(some 80), .pick (.t 75) (.t 79) (.k (.d (.bool false))), none⟩ ::
⟨(some 81), .mv (.t 80), none⟩ ::
⟨(some 82), .call (.k (.fn (.func 67) [] [])) [(.k (.d (.int .u8 6)))], some (81, true)⟩ ::
⟨(some 83), .bin .eql (.t 82) (.k (.d (.int .u8 4))), some (81, true)⟩ ::
⟨(some 84), .pick (.t 81) (.t 83) (.k (.d (.bool false))), none⟩ ::
⟨(some 0), .mv (.t 84), none⟩ :: []) (fullB 68) false)
 .ret)))))))
def rv : List RV := [.tmp 0]
theorem c : cK Try.prog Try.f32.ntmps (Try.f32.body.getD .ret) = some s := by kernel_rfl
theorem b : Try.f32.body = some (Try.f32.body.getD .ret) := by kernel_rfl
theorem r : cRV Try.prog Try.f32.results.toList = some rv := by kernel_rfl
theorem ca : Callable Try.prog 32 = true := by kernel_rfl
theorem enter {args : List SV} {F : Hp} {k nk : Nat} {Q : SV → Hp → Prop} (hargs : SV.oks (fun n => decide (n < k)) args = true) (hF : F.ok (fun n => decide (n < k)) = true) (hN : args.length ≤ 85)
    (h : SW Try.prog 85 k s ⟨argE 0 args, F, k⟩ fun e st' => match e with | .normal => Fin k nk rv Q st' | .ret => Fin k nk rv Q st' | _ => False) : SB Try.prog 32 args F k nk Q :=
  SB.of_body Try.func32 b c r ca hargs hF hN h
end law17_head
namespace shape_New
abbrev f : Nat := 33
def s : SCo := (.seq
(.reg [⟨(some 2), .mv (.k (.d .nilp)), none⟩] (fullB 1) false)
(.seq
(.reg [⟨(some 12), .mv (.t 0), none⟩,
⟨(some 13), .call (.k (.fn (.func 21) [] [])) [(.t 12)], none⟩,
⟨(some 14), .mkm, none⟩,
⟨(some 15), .mkm, none⟩,
⟨(some 16), .mkm, none⟩,
⟨(some 17), .bld [(.d .nilp), (.d .nilm), (.d .nilm), (.d .nilm)] [(0, 1, (.t 13)), (1, 1, (.t 14)), (2, 1, (.t 15)), (3, 1, (.t 16))], none⟩,
⟨(some 18), .box 124 (.t 17), none⟩,
⟨(some 3), .mv (.t 18), none⟩] (fullB 8) false)
(.seq
(.seq
 (.reg [⟨(some 19), .mv (.t 0), none⟩,
⟨(some 20), .len (.t 19), none⟩,
⟨(some 21), .mv (.k (.d (.int .i64 0))), none⟩] (fullB 3) false)
 (.block 0
 (.loop
 (.seq
 (.reg [⟨(some 22), .bin .lss (.t 21) (.t 20), none⟩] (fullB 1) false)
 (.seq
  (.cond (.t 22)
  .skip
  (.exit 0))
  (.seq
  (.block 1
  (.seq
  (.reg [⟨(some 23), .idxS 29 (.t 19) (.t 21), none⟩,
⟨(some 24), .load (some 29) (.t 23), none⟩,
⟨(some 5), .alloc 41 [(.d (.int .u8 0)), (.d (.int .u32 0)), (.d (.int .u32 0)), (.d (.int .u32 0)), (.d (.int .u32 0)), (.d (.int .u32 0)), (.d (.int .u32 0)), (.d (.int .u32 0)), (.d (.int .u32 0)), (.d (.int .u32 0)), (.d (.int .u64 0)), (.d (.int .u32 0)), (.d (.int .u8 0)), (.d (.int .u32 0)), (.d (.int .u8 0)), (.d (.int .u8 0)), (.d (.int .u32 0)), (.d (.int .u32 0)), (.d (.int .u8 0)), (.d (.int .u8 0)), (.d (.int .u64 0)), (.d (.int .u8 0)), (.d (.int .u32 0)), (.d (.int .u8 0)), (.d (.int .u32 0)), (.d (.int .u32 0)), (.d (.int .u32 0)), (.d (.int .u32 0)), (.d .nils)], none⟩,
⟨none, .store 29 (.t 5) (.t 24), none⟩] (fullB 4) false)
  (.seq
   (.reg [⟨(some 26), .mv (.t 3), none⟩,
⟨(some 27), .nilc (.t 26), none⟩,
⟨(some 28), .fld 1 (.t 27), none⟩,
⟨(some 29), .load none (.t 28), none⟩,
⟨(some 30), .fld 0 (.t 5), none⟩,
⟨(some 31), .load (some 2) (.t 30), none⟩,
⟨(some 32), .look [true, true] true (.agg [(.d (.int .u8 0)), (.d (.int .u32 0)), (.d (.int .u32 0)), (.d (.int .u32 0)), (.d (.int .u32 0)), (.d (.int .u32 0)), (.d (.int .u32 0)), (.d (.int .u32 0)), (.d (.int .u32 0)), (.d (.int .u32 0)), (.d (.int .u64 0)), (.d (.int .u32 0)), (.d (.int .u8 0)), (.d (.int .u32 0)), (.d (.int .u8 0)), (.d (.int .u8 0)), (.d (.int .u32 0)), (.d (.int .u32 0)), (.d (.int .u8 0)), (.d (.int .u8 0)), (.d (.int .u64 0)), (.d (.int .u8 0)), (.d (.int .u32 0)), (.d (.int .u8 0)), (.d (.int .u32 0)), (.d (.int .u32 0)), (.d (.int .u32 0)), (.d (.int .u32 0)), (.d .nils)]) (.t 29) (.t 31) true, none⟩,
⟨(some 25), .mv (.t 32), none⟩,
⟨(some 33), .ext 0 (.t 25), none⟩,
⟨(some 34), .ext 1 (.t 25), none⟩,
⟨(some 6), .alloc 41 [(.d (.int .u8 0)), (.d (.int .u32 0)), (.d (.int .u32 0)), (.d (.int .u32 0)), (.d (.int .u32 0)), (.d (.int .u32 0)), (.d (.int .u32 0)), (.d (.int .u32 0)), (.d (.int .u32 0)), (.d (.int .u32 0)), (.d (.int .u64 0)), (.d (.int .u32 0)), (.d (.int .u8 0)), (.d (.int .u32 0)), (.d (.int .u8 0)), (.d (.int .u8 0)), (.d (.int .u32 0)), (.d (.int .u32 0)), (.d (.int .u8 0)), (.d (.int .u8 0)), (.d (.int .u64 0)), (.d (.int .u8 0)), (.d (.int .u32 0)), (.d (.int .u8 0)), (.d (.int .u32 0)), (.d (.int .u32 0)), (.d (.int .u32 0)), (.d (.int .u32 0)), (.d .nils)], none⟩,
⟨none, .store 29 (.t 6) (.t 33), none⟩,
⟨(some 7), .mv (.t 34), none⟩] [0,
1,
3,
7,
0,
16,
63,
127,
255,
255,
0,
1535,
4095] true)
   (.seq
   (.reg [⟨(some 35), .mv (.t 7), none⟩,
⟨(some 36), .not (.t 35), none⟩] (fullB 2) false)
   (.cond (.t 36)
   (.reg [⟨(some 37), .mv (.t 3), none⟩,
⟨(some 38), .nilc (.t 37), none⟩,
⟨(some 39), .fld 1 (.t 38), none⟩,
⟨(some 40), .load none (.t 39), none⟩,
⟨(some 41), .fld 0 (.t 5), none⟩,
⟨(some 42), .load (some 2) (.t 41), none⟩,
⟨(some 43), .load (some 29) (.t 5), none⟩,
⟨none, .mset [true, true] true (.t 40) (.t 42) (.t 43), none⟩] [0,
1,
3,
7,
0,
16,
0,
127] true)
   .skip)))))
  (.reg [⟨(some 44), .bin .add (.t 21) (.k (.d (.int .i64 1))), none⟩,
⟨(some 21), .mv (.t 44), none⟩] (fullB 2) false)))))))
(.seq
 (.seq
 (.reg [⟨(some 45), .mv (.t 3), none⟩,
⟨(some 46), .nilc (.t 45), none⟩,
⟨(some 47), .fld 1 (.t 46), none⟩,
⟨(some 48), .load none (.t 47), none⟩,
⟨(some 49), .mrange (.t 48), none⟩] (fullB 5) false)
 (.block 2
 (.loop
 (.seq
  (.reg [⟨(some 50), .mnext (.t 49), none⟩,
⟨(some 51), .ext 0 (.t 50), none⟩] (fullB 2) false)
  (.seq
  (.cond (.t 51)
  .skip
  (.exit 2))
  (.block 3
  (.seq
  (.reg [⟨(some 52), .mentry (.t 49), none⟩,
⟨(some 53), .ext 0 (.t 52), none⟩,
⟨(some 54), .ext 1 (.t 52), none⟩,
⟨(some 8), .alloc 37 [(.d (.int .u8 0)), (.d (.int .u32 0))], none⟩,
⟨(some 9), .alloc 41 [(.d (.int .u8 0)), (.d (.int .u32 0)), (.d (.int .u32 0)), (.d (.int .u32 0)), (.d (.int .u32 0)), (.d (.int .u32 0)), (.d (.int .u32 0)), (.d (.int .u32 0)), (.d (.int .u32 0)), (.d (.int .u32 0)), (.d (.int .u64 0)), (.d (.int .u32 0)), (.d (.int .u8 0)), (.d (.int .u32 0)), (.d (.int .u8 0)), (.d (.int .u8 0)), (.d (.int .u32 0)), (.d (.int .u32 0)), (.d (.int .u8 0)), (.d (.int .u8 0)), (.d (.int .u64 0)), (.d (.int .u8 0)), (.d (.int .u32 0)), (.d (.int .u8 0)), (.d (.int .u32 0)), (.d (.int .u32 0)), (.d (.int .u32 0)), (.d (.int .u32 0)), (.d .nils)], none⟩,
⟨none, .store 2 (.t 8) (.t 53), none⟩,
⟨none, .store 29 (.t 9) (.t 54), none⟩] (fullB 7) false)
  (.seq
   (.reg [⟨(some 55), .fld 14 (.t 9), none⟩,
⟨(some 56), .load none (.t 55), none⟩,
⟨(some 57), .bin .eql (.t 56) (.k (.d (.int .u8 3))), none⟩,
⟨(some 58), .mv (.t 57), none⟩,
⟨(some 59), .mv (.t 3), some (58, true)⟩,
⟨(some 60), .load (some 29) (.t 9), some (58, true)⟩,
⟨(some 61), .call (.k (.fn (.func 34) [] [])) [(.t 59), (.t 60)], some (58, true)⟩,
⟨(some 62), .bin .eql (.t 61) (.k (.d (.int .i64 0))), some (58, true)⟩,
⟨(some 63), .pick (.t 58) (.t 62) (.k (.d (.bool false))), none⟩] (fullB 9) false)
   (.cond (.t 63)
   (.reg [⟨(some 64), .mv (.t 3), none⟩,
⟨(some 65), .nilc (.t 64), none⟩,
⟨(some 66), .fld 2 (.t 65), none⟩,
⟨(some 67), .load none (.t 66), none⟩,
⟨(some 68), .load (some 2) (.t 8), none⟩,
⟨none, .mset [true, true] true (.t 67) (.t 68) (.k (.d (.int .i64 1))), none⟩] [0,
1,
3,
7,
0,
31] true)
   .skip)))))))))
 (.seq
 (.seq
 (.reg [⟨(some 69), .mv (.t 3), none⟩,
⟨(some 70), .nilc (.t 69), none⟩,
⟨(some 71), .fld 1 (.t 70), none⟩,
⟨(some 72), .load none (.t 71), none⟩,
⟨(some 73), .mrange (.t 72), none⟩] (fullB 5) false)
 (.block 4
 (.loop
  (.seq
  (.reg [⟨(some 74), .mnext (.t 73), none⟩,
⟨(some 75), .ext 0 (.t 74), none⟩] (fullB 2) false)
  (.seq
  (.cond (.t 75)
  .skip
  (.exit 4))
  (.block 5
  (.seq
   (.reg [⟨(some 76), .mentry (.t 73), none⟩,
⟨(some 77), .ext 0 (.t 76), none⟩,
⟨(some 78), .ext 1 (.t 76), none⟩,
⟨(some 10), .alloc 37 [(.d (.int .u8 0)), (.d (.int .u32 0))], none⟩,
⟨(some 11), .alloc 41 [(.d (.int .u8 0)), (.d (.int .u32 0)), (.d (.int .u32 0)), (.d (.int .u32 0)), (.d (.int .u32 0)), (.d (.int .u32 0)), (.d (.int .u32 0)), (.d (.int .u32 0)), (.d (.int .u32 0)), (.d (.int .u32 0)), (.d (.int .u64 0)), (.d (.int .u32 0)), (.d (.int .u8 0)), (.d (.int .u32 0)), (.d (.int .u8 0)), (.d (.int .u8 0)), (.d (.int .u32 0)), (.d (.int .u32 0)), (.d (.int .u8 0)), (.d (.int .u8 0)), (.d (.int .u64 0)), (.d (.int .u8 0)), (.d (.int .u32 0)), (.d (.int .u8 0)), (.d (.int .u32 0)), (.d (.int .u32 0)), (.d (.int .u32 0)), (.d (.int .u32 0)), (.d .nils)], none⟩,
⟨none, .store 2 (.t 10) (.t 77), none⟩,
⟨none, .store 29 (.t 11) (.t 78), none⟩] (fullB 7) false)
   (.seq
   (.reg [⟨(some 79), .fld 14 (.t 11), none⟩,
⟨(some 80), .load none (.t 79), none⟩,
⟨(some 81), .bin .eql (.t 80) (.k (.d (.int .u8 4))), none⟩,
⟨(some 82), .mv (.t 81), none⟩,
⟨(some 83), .mv (.t 3), some (82, true)⟩,
⟨(some 84), .load (some 29) (.t 11), some (82, true)⟩,
⟨(some 85), .call (.k (.fn (.func 34) [] [])) [(.t 83), (.t 84)], some (82, true)⟩,
⟨(some 86), .bin .eql (.t 85) (.k (.d (.int .i64 0))), some (82, true)⟩,
⟨(some 87), .pick (.t 82) (.t 86) (.k (.d (.bool false))), none⟩] (fullB 9) false)
   (.cond (.t 87)
   (.reg [⟨(some 88), .mv (.t 3), none⟩,
⟨(some 89), .nilc (.t 88), none⟩,
⟨(some 90), .fld 3 (.t 89), none⟩,
⟨(some 91), .load none (.t 90), none⟩,
⟨(some 92), .load (some 2) (.t 10), none⟩,
⟨(some 93), .fld 21 (.t 11), none⟩,
⟨(some 94), .load (some 2) (.t 93), none⟩,
⟨none, .mset [true, true] true (.t 91) (.t 92) (.t 94), none⟩] [0,
1,
3,
7,
0,
0,
32,
127] true)
   .skip)))))))))
 (.seq
 (.reg [⟨(some 95), .mv (.t 3), none⟩,
⟨(some 2), .mv (.t 95), none⟩] (fullB 2) false)
 .ret))))))
def rv : List RV := [.tmp 2]
theorem c : cK Try.prog Try.f33.ntmps (Try.f33.body.getD .ret) = some s := by kernel_rfl
theorem b : Try.f33.body = some (Try.f33.body.getD .ret) := by kernel_rfl
theorem r : cRV Try.prog Try.f33.results.toList = some rv := by kernel_rfl
theorem ca : Callable Try.prog 33 = true := by kernel_rfl
theorem enter {args : List SV} {F : Hp} {k nk : Nat} {Q : SV → Hp → Prop} (hargs : SV.oks (fun n => decide (n < k)) args = true) (hF : F.ok (fun n => decide (n < k)) = true) (hN : args.length ≤ 96)
    (h : SW Try.prog 96 k s ⟨argE 0 args, F, k⟩ fun e st' => match e with | .normal => Fin k nk rv Q st' | .ret => Fin k nk rv Q st' | _ => False) : SB Try.prog 33 args F k nk Q :=
  SB.of_body Try.func33 b c r ca hargs hF hN h
end shape_New
namespace shape_Shape_Why
abbrev f : Nat := 34
def s : SCo := (.seq
(.reg [⟨(some 2), .box 76 (.t 0), none⟩,
⟨(some 3), .box 41 (.t 1), none⟩,
⟨(some 4), .mv (.k (.d (.int .i64 0))), none⟩] (fullB 3) false)
(.seq
(.seq
(.reg [⟨(some 10), .load none (.t 2), none⟩,
⟨(some 11), .call (.k (.fn (.func 68) [] [])) [(.t 10)], none⟩] (fullB 2) false)
(.cond (.t 11)
 (.seq
 (.reg [⟨(some 4), .mv (.k (.d (.int .i64 1))), none⟩] (fullB 1) false)
 .ret)
 .skip))
(.seq
(.reg [⟨(some 13), .load none (.t 2), none⟩,
⟨(some 14), .fld 15 (.t 3), none⟩,
⟨(some 15), .load (some 2) (.t 14), none⟩,
⟨(some 16), .load (some 29) (.t 3), none⟩,
⟨(some 17), .call (.k (.fn (.func 69) [] [])) [(.t 13), (.t 15), (.t 16)], none⟩,
⟨(some 12), .mv (.t 17), none⟩,
⟨(some 18), .ext 0 (.t 12), none⟩,
⟨(some 19), .ext 1 (.t 12), none⟩,
⟨(some 5), .alloc 51 [(.d (.int .u8 0)), (.d (.int .u32 0)), (.d (.int .u8 0)), (.d (.int .u32 0)), (.d (.int .u8 0)), (.d (.int .u32 0)), (.d (.int .u32 0)), (.d (.int .u8 0)), (.d (.int .u8 0)), (.d (.int .u64 0)), (.d (.int .i64 0))], none⟩,
⟨(some 6), .alloc 4 [(.d (.bool false))], none⟩,
⟨none, .store 11 (.t 5) (.t 18), none⟩,
⟨none, .store 1 (.t 6) (.t 19), none⟩] (fullB 12) false)
(.seq
 (.reg [⟨(some 20), .fld 14 (.t 3), none⟩,
⟨(some 21), .load none (.t 20), none⟩,
⟨(some 22), .bin .eql (.t 21) (.k (.d (.int .u8 0))), none⟩,
⟨(some 7), .alloc 4 [(.d (.bool false))], none⟩,
⟨none, .store 1 (.t 7) (.t 22), none⟩] (fullB 5) false)
 (.seq
 (.seq
 (.reg (⟨(some 23), .mkf (.func 70) [] [(.t 3)], none⟩ ::
⟨(some 24), .bld [(.d (.int .i64 0)), (.d .nilf)] [(0, 1, (.k (.d (.int .i64 2)))), (1, 1, (.t 23))], none⟩ ::
⟨(some 25), .mkf (.func 71) [] [(.t 2), (.t 3)], none⟩ ::
⟨(some 26), .bld [(.d (.int .i64 0)), (.d .nilf)] [(0, 1, (.k (.d (.int .i64 271)))), (1, 1, (.t 25))], none⟩ ::
⟨(some 27), .mkf (.func 73) [] [(.t 7), (.t 6)], none⟩ ::
⟨(some 28), .bld [(.d (.int .i64 0)), (.d .nilf)] [(0, 1, (.k (.d (.int .i64 272)))), (1, 1, (.t 27))], none⟩ ::
⟨(some 29), .mkf (.func 74) [] [(.t 7), (.t 5), (.t 3)], none⟩ ::
⟨(some 30), .bld [(.d (.int .i64 0)), (.d .nilf)] [(0, 1, (.k (.d (.int .i64 273)))), (1, 1, (.t 29))], none⟩ ::
⟨(some 31), .mkf (.func 75) [] [(.t 5), (.t 3)], none⟩ ::
⟨(some 32), .bld [(.d (.int .i64 0)), (.d .nilf)] [(0, 1, (.k (.d (.int .i64 274)))), (1, 1, (.t 31))], none⟩ ::
⟨(some 33), .mkf (.func 76) [] [(.t 3), (.t 2)], none⟩ ::
⟨(some 34), .bld [(.d (.int .i64 0)), (.d .nilf)] [(0, 1, (.k (.d (.int .i64 275)))), (1, 1, (.t 33))], none⟩ ::
⟨(some 35), .mkf (.func 77) [] [(.t 2), (.t 3)], none⟩ ::
⟨(some 36), .bld [(.d (.int .i64 0)), (.d .nilf)] [(0, 1, (.k (.d (.int .i64 276)))), (1, 1, (.t 35))], none⟩ ::
⟨(some 37), .bld [(.d (.int .i64 0)), (.d .nilf), (.d (.int .i64 0)), (.d .nilf), (.d (.int .i64 0)), (.d .nilf), (.d (.int .i64 0)), (.d .nilf), (.d (.int .i64 0)), (.d .nilf), (.d (.int .i64 0)), (.d .nilf), (.d (.int .i64 0)), (.d .nilf)] [(0, 2, (.t 24)), (2, 2, (.t 26)), (4, 2, (.t 28)), (6, 2, (.t 30)), (8, 2, (.t 32)), (10, 2, (.t 34)), (12, 2, (.t 36))], none⟩ ::
⟨(some 38), .mv (.k (.d (.int .i64 0))), none⟩ :: []) (fullB 16) false)
 (.block 0
 (.loop
  (.seq
  (.reg [⟨(some 39), .bin .lss (.t 38) (.k (.d (.int .i64 7))), none⟩] (fullB 1) false)
  (.seq
  (.cond (.t 39)
  .skip
  (.exit 0))
  (.seq
  (.block 1
   (.seq
   (.reg [⟨(some 40), .index 7 2 true (.t 37) (.t 38), none⟩,
⟨(some 9), .alloc 127 [(.d (.int .i64 0)), (.d .nilf)], none⟩,
⟨none, .store 2 (.t 9) (.t 40), none⟩] (fullB 3) false)
   (.seq
   (.reg [⟨(some 41), .fld 1 (.t 9), none⟩,
⟨(some 42), .load none (.t 41), none⟩,
⟨(some 43), .call (.t 42) [], none⟩] (fullB 3) false)
   (.cond (.t 43)
   (.seq
    (.reg [⟨(some 44), .fld 0 (.t 9), none⟩,
⟨(some 45), .load none (.t 44), none⟩,
⟨(some 4), .mv (.t 45), none⟩] (fullB 3) false)
    .ret)
   .skip))))
  (.reg [⟨(some 46), .bin .add (.t 38) (.k (.d (.int .i64 1))), none⟩,
⟨(some 38), .mv (.t 46), none⟩] (fullB 2) false)))))))
 (.seq
 (.reg [⟨(some 4), .mv (.k (.d (.int .i64 0))), none⟩] (fullB 1) false)
 .ret))))))
def rv : List RV := [.tmp 4]
theorem c : cK Try.prog Try.f34.ntmps (Try.f34.body.getD .ret) = some s := by kernel_rfl
theorem b : Try.f34.body = some (Try.f34.body.getD .ret) := by kernel_rfl
theorem r : cRV Try.prog Try.f34.results.toList = some rv := by kernel_rfl
theorem ca : Callable Try.prog 34 = true := by kernel_rfl
theorem enter {args : List SV} {F : Hp} {k nk : Nat} {Q : SV → Hp → Prop} (hargs : SV.oks (fun n => decide (n < k)) args = true) (hF : F.ok (fun n => decide (n < k)) = true) (hN : args.length ≤ 47)
    (h : SW Try.prog 47 k s ⟨argE 0 args, F, k⟩ fun e st' => match e with | .normal => Fin k nk rv Q st' | .ret => Fin k nk rv Q st' | _ => False) : SB Try.prog 34 args F k nk Q :=
  SB.of_body Try.func34 b c r ca hargs hF hN h
end shape_Shape_Why
namespace shape_Shape_Good
abbrev f : Nat := 35
def s : SCo := (.seq
(.reg [⟨(some 3), .box 37 (.t 1), none⟩,
⟨(some 4), .mv (.k (.d (.bool false))), none⟩] (fullB 2) false)
(.seq
(.reg [⟨(some 8), .mv (.t 0), none⟩,
⟨(some 9), .load (some 2) (.t 3), none⟩,
⟨(some 10), .call (.k (.fn (.func 79) [] [])) [(.t 8), (.t 9)], none⟩,
⟨(some 7), .mv (.t 10), none⟩,
⟨(some 11), .ext 0 (.t 7), none⟩,
⟨(some 12), .ext 1 (.t 7), none⟩,
⟨(some 5), .alloc 41 [(.d (.int .u8 0)), (.d (.int .u32 0)), (.d (.int .u32 0)), (.d (.int .u32 0)), (.d (.int .u32 0)), (.d (.int .u32 0)), (.d (.int .u32 0)), (.d (.int .u32 0)), (.d (.int .u32 0)), (.d (.int .u32 0)), (.d (.int .u64 0)), (.d (.int .u32 0)), (.d (.int .u8 0)), (.d (.int .u32 0)), (.d (.int .u8 0)), (.d (.int .u8 0)), (.d (.int .u32 0)), (.d (.int .u32 0)), (.d (.int .u8 0)), (.d (.int .u8 0)), (.d (.int .u64 0)), (.d (.int .u8 0)), (.d (.int .u32 0)), (.d (.int .u8 0)), (.d (.int .u32 0)), (.d (.int .u32 0)), (.d (.int .u32 0)), (.d (.int .u32 0)), (.d .nils)], none⟩,
⟨none, .store 29 (.t 5) (.t 11), none⟩,
⟨(some 6), .mv (.t 12), none⟩] (fullB 9) false)
(.seq
(.reg [⟨(some 13), .mv (.t 6), none⟩,
⟨(some 14), .mv (.t 13), none⟩,
⟨(some 15), .mv (.t 0), some (14, true)⟩,
⟨(some 16), .load (some 29) (.t 5), some (14, true)⟩,
⟨(some 17), .call (.k (.fn (.func 34) [] [])) [(.t 15), (.t 16)], some (14, true)⟩,
⟨(some 18), .bin .eql (.t 17) (.k (.d (.int .i64 0))), some (14, true)⟩,
⟨(some 19), .pick (.t 14) (.t 18) (.k (.d (.bool false))), none⟩,
⟨(some 4), .mv (.t 19), none⟩] (fullB 8) false)
.ret)))
def rv : List RV := [.tmp 4]
theorem c : cK Try.prog Try.f35.ntmps (Try.f35.body.getD .ret) = some s := by kernel_rfl
theorem b : Try.f35.body = some (Try.f35.body.getD .ret) := by kernel_rfl
theorem r : cRV Try.prog Try.f35.results.toList = some rv := by kernel_rfl
theorem ca : Callable Try.prog 35 = true := by kernel_rfl
theorem enter {args : List SV} {F : Hp} {k nk : Nat} {Q : SV → Hp → Prop} (hargs : SV.oks (fun n => decide (n < k)) args = true) (hF : F.ok (fun n => decide (n < k)) = true) (hN : args.length ≤ 20)
    (h : SW Try.prog 20 k s ⟨argE 0 args, F, k⟩ fun e st' => match e with | .normal => Fin k nk rv Q st' | .ret => Fin k nk rv Q st' | _ => False) : SB Try.prog 35 args F k nk Q :=
  SB.of_body Try.func35 b c r ca hargs hF hN h
end shape_Shape_Good
namespace law17_row
abbrev f : Nat := 64
def s : SCo := (.seq
(.reg [⟨(some 0), .mv (.k (.d .nils)), none⟩] (fullB 1) false)
(.seq
(.reg [⟨(some 5), .call (.k (.fn (.func 65) [] [])) [(.k (.d (.int .u32 1))), (.k (.d (.int .u8 0))), (.k (.d (.int .u32 1))), (.k (.d (.int .u32 0)))], none⟩,
⟨(some 6), .call (.k (.fn (.func 65) [] [])) [(.k (.d (.int .u32 2))), (.k (.d (.int .u8 1))), (.k (.d (.int .u32 1))), (.k (.d (.int .u32 1)))], none⟩,
⟨(some 7), .call (.k (.fn (.func 65) [] [])) [(.k (.d (.int .u32 3))), (.k (.d (.int .u8 3))), (.k (.d (.int .u32 2))), (.k (.d (.int .u32 2)))], none⟩,
⟨(some 8), .call (.k (.fn (.func 65) [] [])) [(.k (.d (.int .u32 4))), (.k (.d (.int .u8 4))), (.k (.d (.int .u32 2))), (.k (.d (.int .u32 2)))], none⟩,
⟨(some 1), .alloc 41 [(.d (.int .u8 0)), (.d (.int .u32 0)), (.d (.int .u32 0)), (.d (.int .u32 0)), (.d (.int .u32 0)), (.d (.int .u32 0)), (.d (.int .u32 0)), (.d (.int .u32 0)), (.d (.int .u32 0)), (.d (.int .u32 0)), (.d (.int .u64 0)), (.d (.int .u32 0)), (.d (.int .u8 0)), (.d (.int .u32 0)), (.d (.int .u8 0)), (.d (.int .u8 0)), (.d (.int .u32 0)), (.d (.int .u32 0)), (.d (.int .u8 0)), (.d (.int .u8 0)), (.d (.int .u64 0)), (.d (.int .u8 0)), (.d (.int .u32 0)), (.d (.int .u8 0)), (.d (.int .u32 0)), (.d (.int .u32 0)), (.d (.int .u32 0)), (.d (.int .u32 0)), (.d .nils)], none⟩,
⟨(some 2), .alloc 41 [(.d (.int .u8 0)), (.d (.int .u32 0)), (.d (.int .u32 0)), (.d (.int .u32 0)), (.d (.int .u32 0)), (.d (.int .u32 0)), (.d (.int .u32 0)), (.d (.int .u32 0)), (.d (.int .u32 0)), (.d (.int .u32 0)), (.d (.int .u64 0)), (.d (.int .u32 0)), (.d (.int .u8 0)), (.d (.int .u32 0)), (.d (.int .u8 0)), (.d (.int .u8 0)), (.d (.int .u32 0)), (.d (.int .u32 0)), (.d (.int .u8 0)), (.d (.int .u8 0)), (.d (.int .u64 0)), (.d (.int .u8 0)), (.d (.int .u32 0)), (.d (.int .u8 0)), (.d (.int .u32 0)), (.d (.int .u32 0)), (.d (.int .u32 0)), (.d (.int .u32 0)), (.d .nils)], none⟩,
⟨(some 3), .alloc 41 [(.d (.int .u8 0)), (.d (.int .u32 0)), (.d (.int .u32 0)), (.d (.int .u32 0)), (.d (.int .u32 0)), (.d (.int .u32 0)), (.d (.int .u32 0)), (.d (.int .u32 0)), (.d (.int .u32 0)), (.d (.int .u32 0)), (.d (.int .u64 0)), (.d (.int .u32 0)), (.d (.int .u8 0)), (.d (.int .u32 0)), (.d (.int .u8 0)), (.d (.int .u8 0)), (.d (.int .u32 0)), (.d (.int .u32 0)), (.d (.int .u8 0)), (.d (.int .u8 0)), (.d (.int .u64 0)), (.d (.int .u8 0)), (.d (.int .u32 0)), (.d (.int .u8 0)), (.d (.int .u32 0)), (.d (.int .u32 0)), (.d (.int .u32 0)), (.d (.int .u32 0)), (.d .nils)], none⟩,
⟨(some 4), .alloc 41 [(.d (.int .u8 0)), (.d (.int .u32 0)), (.d (.int .u32 0)), (.d (.int .u32 0)), (.d (.int .u32 0)), (.d (.int .u32 0)), (.d (.int .u32 0)), (.d (.int .u32 0)), (.d (.int .u32 0)), (.d (.int .u32 0)), (.d (.int .u64 0)), (.d (.int .u32 0)), (.d (.int .u8 0)), (.d (.int .u32 0)), (.d (.int .u8 0)), (.d (.int .u8 0)), (.d (.int .u32 0)), (.d (.int .u32 0)), (.d (.int .u8 0)), (.d (.int .u8 0)), (.d (.int .u64 0)), (.d (.int .u8 0)), (.d (.int .u32 0)), (.d (.int .u8 0)), (.d (.int .u32 0)), (.d (.int .u32 0)), (.d (.int .u32 0)), (.d (.int .u32 0)), (.d .nils)], none⟩,
⟨none, .store 29 (.t 1) (.t 5), none⟩,
⟨none, .store 29 (.t 2) (.t 6), none⟩,
⟨none, .store 29 (.t 3) (.t 7), none⟩,
⟨none, .store 29 (.t 4) (.t 8), none⟩] (fullB 12) false)
(.seq
(.reg [⟨(some 9), .fld 17 (.t 2), none⟩,
⟨none, .store 1 (.t 9) (.k (.d (.int .u32 2))), none⟩] (fullB 2) false)
(.seq
 (.reg [⟨(some 10), .fld 18 (.t 2), none⟩,
⟨none, .store 1 (.t 10) (.k (.d (.int .u8 2))), none⟩] (fullB 2) false)
 (.seq
 (.reg [⟨(some 11), .fld 20 (.t 2), none⟩,
⟨none, .store 1 (.t 11) (.k (.d (.int .u64 9))), none⟩] (fullB 2) false)
 (.seq
 (.reg [⟨(some 12), .fld 26 (.t 3), none⟩,
⟨none, .store 1 (.t 12) (.k (.d (.int .u32 1))), none⟩] (fullB 2) false)
 (.seq
 (.reg [⟨(some 13), .bld [(.d (.int .u8 0)), (.d (.int .u32 0))] [(1, 1, (.k (.d (.int .u32 3))))], none⟩,
⟨(some 14), .fld 21 (.t 4), none⟩,
⟨none, .store 2 (.t 14) (.t 13), none⟩] (fullB 3) false)
 (.seq
  (.reg [⟨(some 15), .fld 26 (.t 4), none⟩,
⟨none, .store 1 (.t 15) (.k (.d (.int .u32 2))), none⟩] (fullB 2) false)
  (.seq
  (.reg [⟨(some 16), .load (some 29) (.t 1), none⟩,
⟨(some 17), .load (some 29) (.t 2), none⟩,
⟨(some 18), .load (some 29) (.t 3), none⟩,
⟨(some 19), .load (some 29) (.t 4), none⟩,
⟨(some 20), .bsl 41 29 4 [(.d (.int .u8 0)), (.d (.int .u32 0)), (.d (.int .u32 0)), (.d (.int .u32 0)), (.d (.int .u32 0)), (.d (.int .u32 0)), (.d (.int .u32 0)), (.d (.int .u32 0)), (.d (.int .u32 0)), (.d (.int .u32 0)), (.d (.int .u64 0)), (.d (.int .u32 0)), (.d (.int .u8 0)), (.d (.int .u32 0)), (.d (.int .u8 0)), (.d (.int .u8 0)), (.d (.int .u32 0)), (.d (.int .u32 0)), (.d (.int .u8 0)), (.d (.int .u8 0)), (.d (.int .u64 0)), (.d (.int .u8 0)), (.d (.int .u32 0)), (.d (.int .u8 0)), (.d (.int .u32 0)), (.d (.int .u32 0)), (.d (.int .u32 0)), (.d (.int .u32 0)), (.d .nils), (.d (.int .u8 0)), (.d (.int .u32 0)), (.d (.int .u32 0)), (.d (.int .u32 0)), (.d (.int .u32 0)), (.d (.int .u32 0)), (.d (.int .u32 0)), (.d (.int .u32 0)), (.d (.int .u32 0)), (.d (.int .u32 0)), (.d (.int .u64 0)), (.d (.int .u32 0)), (.d (.int .u8 0)), (.d (.int .u32 0)), (.d (.int .u8 0)), (.d (.int .u8 0)), (.d (.int .u32 0)), (.d (.int .u32 0)), (.d (.int .u8 0)), (.d (.int .u8 0)), (.d (.int .u64 0)), (.d (.int .u8 0)), (.d (.int .u32 0)), (.d (.int .u8 0)), (.d (.int .u32 0)), (.d (.int .u32 0)), (.d (.int .u32 0)), (.d (.int .u32 0)), (.d .nils), (.d (.int .u8 0)), (.d (.int .u32 0)), (.d (.int .u32 0)), (.d (.int .u32 0)), (.d (.int .u32 0)), (.d (.int .u32 0)), (.d (.int .u32 0)), (.d (.int .u32 0)), (.d (.int .u32 0)), (.d (.int .u32 0)), (.d (.int .u64 0)), (.d (.int .u32 0)), (.d (.int .u8 0)), (.d (.int .u32 0)), (.d (.int .u8 0)), (.d (.int .u8 0)), (.d (.int .u32 0)), (.d (.int .u32 0)), (.d (.int .u8 0)), (.d (.int .u8 0)), (.d (.int .u64 0)), (.d (.int .u8 0)), (.d (.int .u32 0)), (.d (.int .u8 0)), (.d (.int .u32 0)), (.d (.int .u32 0)), (.d (.int .u32 0)), (.d (.int .u32 0)), (.d .nils), (.d (.int .u8 0)), (.d (.int .u32 0)), (.d (.int .u32 0)), (.d (.int .u32 0)), (.d (.int .u32 0)), (.d (.int .u32 0)), (.d (.int .u32 0)), (.d (.int .u32 0)), (.d (.int .u32 0)), (.d (.int .u32 0)), (.d (.int .u64 0)), (.d (.int .u32 0)), (.d (.int .u8 0)), (.d (.int .u32 0)), (.d (.int .u8 0)), (.d (.int .u8 0)), (.d (.int .u32 0)), (.d (.int .u32 0)), (.d (.int .u8 0)), (.d (.int .u8 0)), (.d (.int .u64 0)), (.d (.int .u8 0)), (.d (.int .u32 0)), (.d (.int .u8 0)), (.d (.int .u32 0)), (.d (.int .u32 0)), (.d (.int .u32 0)), (.d (.int .u32 0)), (.d .nils)] [(0, 29, (.t 16)), (29, 29, (.t 17)), (58, 29, (.t 18)), (87, 29, (.t 19))], none⟩,
⟨(some 0), .mv (.t 20), none⟩] (fullB 6) false)
  .ret)))))))))
def rv : List RV := [.tmp 0]
theorem c : cK Try.prog Try.f64.ntmps (Try.f64.body.getD .ret) = some s := by kernel_rfl
theorem b : Try.f64.body = some (Try.f64.body.getD .ret) := by kernel_rfl
theorem r : cRV Try.prog Try.f64.results.toList = some rv := by kernel_rfl
theorem ca : Callable Try.prog 64 = true := by kernel_rfl
theorem enter {args : List SV} {F : Hp} {k nk : Nat} {Q : SV → Hp → Prop} (hargs : SV.oks (fun n => decide (n < k)) args = true) (hF : F.ok (fun n => decide (n < k)) = true) (hN : args.length ≤ 21)
    (h : SW Try.prog 21 k s ⟨argE 0 args, F, k⟩ fun e st' => match e with | .normal => Fin k nk rv Q st' | .ret => Fin k nk rv Q st' | _ => False) : SB Try.prog 64 args F k nk Q :=
  SB.of_body Try.func64 b c r ca hargs hF hN h
end law17_row
namespace law17_act
abbrev f : Nat := 65
def s : SCo := (.seq
(.reg [⟨(some 8), .alloc 41 [(.d (.int .u8 0)), (.d (.int .u32 0)), (.d (.int .u32 0)), (.d (.int .u32 0)), (.d (.int .u32 0)), (.d (.int .u32 0)), (.d (.int .u32 0)), (.d (.int .u32 0)), (.d (.int .u32 0)), (.d (.int .u32 0)), (.d (.int .u64 0)), (.d (.int .u32 0)), (.d (.int .u8 0)), (.d (.int .u32 0)), (.d (.int .u8 0)), (.d (.int .u8 0)), (.d (.int .u32 0)), (.d (.int .u32 0)), (.d (.int .u8 0)), (.d (.int .u8 0)), (.d (.int .u64 0)), (.d (.int .u8 0)), (.d (.int .u32 0)), (.d (.int .u8 0)), (.d (.int .u32 0)), (.d (.int .u32 0)), (.d (.int .u32 0)), (.d (.int .u32 0)), (.d .nils)], none⟩] (fullB 1) false)
(.seq
(.reg [⟨(some 9), .mv (.t 0), none⟩,
⟨(some 10), .bld [(.d (.int .u8 0)), (.d (.int .u32 0))] [(1, 1, (.t 9))], none⟩,
⟨(some 11), .mv (.t 0), none⟩,
⟨(some 12), .bin .sub (.t 11) (.k (.d (.int .u32 1))), none⟩,
⟨(some 13), .bld [(.d (.int .u32 0)), (.d (.int .u32 0)), (.d (.int .u32 0)), (.d (.int .u32 0)), (.d (.int .u32 0)), (.d (.int .u32 0)), (.d (.int .u32 0)), (.d (.int .u32 0))] [(0, 1, (.t 12))], none⟩,
⟨(some 14), .mv (.t 0), none⟩,
⟨(some 15), .conv .u64 (.t 14), none⟩,
⟨(some 16), .mv (.t 2), none⟩,
⟨(some 17), .bld [(.d (.int .u8 0)), (.d (.int .u32 0))] [(1, 1, (.k (.d (.int .u32 1))))], none⟩,
⟨(some 18), .mv (.t 1), none⟩,
⟨(some 19), .mv (.t 3), none⟩,
⟨(some 20), .bld [(.d (.int .u8 0)), (.d (.int .u32 0))] [(1, 1, (.t 19))], none⟩,
⟨(some 21), .bld [(.d (.int .u8 0)), (.d (.int .u32 0)), (.d (.int .u32 0)), (.d (.int .u32 0)), (.d (.int .u32 0)), (.d (.int .u32 0)), (.d (.int .u32 0)), (.d (.int .u32 0)), (.d (.int .u32 0)), (.d (.int .u32 0)), (.d (.int .u64 0)), (.d (.int .u32 0)), (.d (.int .u8 0)), (.d (.int .u32 0)), (.d (.int .u8 0)), (.d (.int .u8 0)), (.d (.int .u32 0)), (.d (.int .u32 0)), (.d (.int .u8 0)), (.d (.int .u8 0)), (.d (.int .u64 0)), (.d (.int .u8 0)), (.d (.int .u32 0)), (.d (.int .u8 0)), (.d (.int .u32 0)), (.d (.int .u32 0)), (.d (.int .u32 0)), (.d (.int .u32 0)), (.d .nils)] [(0, 2, (.t 10)), (2, 8, (.t 13)), (10, 1, (.t 15)), (11, 1, (.t 16)), (12, 2, (.t 17)), (14, 1, (.t 18)), (15, 2, (.t 20))], none⟩,
⟨none, .store 29 (.t 8) (.t 21), none⟩] (fullB 14) false)
.ret))
def rv : List RV := [.cell 8 (some 29)]
theorem c : cK Try.prog Try.f65.ntmps (Try.f65.body.getD .ret) = some s := by kernel_rfl
theorem b : Try.f65.body = some (Try.f65.body.getD .ret) := by kernel_rfl
theorem r : cRV Try.prog Try.f65.results.toList = some rv := by kernel_rfl
theorem ca : Callable Try.prog 65 = true := by kernel_rfl
theorem enter {args : List SV} {F : Hp} {k nk : Nat} {Q : SV → Hp → Prop} (hargs : SV.oks (fun n => decide (n < k)) args = true) (hF : F.ok (fun n => decide (n < k)) = true) (hN : args.length ≤ 22)
    (h : SW Try.prog 22 k s ⟨argE 0 args, F, k⟩ fun e st' => match e with | .normal => Fin k nk rv Q st' | .ret => Fin k nk rv Q st' | _ => False) : SB Try.prog 65 args F k nk Q :=
  SB.of_body Try.func65 b c r ca hargs hF hN h
end law17_act
namespace law17_at
abbrev f : Nat := 66
def s : SCo := (.seq
(.reg [⟨(some 3), .box 41 (.t 0), none⟩,
⟨(some 6), .alloc 41 [(.d (.int .u8 0)), (.d (.int .u32 0)), (.d (.int .u32 0)), (.d (.int .u32 0)), (.d (.int .u32 0)), (.d (.int .u32 0)), (.d (.int .u32 0)), (.d (.int .u32 0)), (.d (.int .u32 0)), (.d (.int .u32 0)), (.d (.int .u64 0)), (.d (.int .u32 0)), (.d (.int .u8 0)), (.d (.int .u32 0)), (.d (.int .u8 0)), (.d (.int .u8 0)), (.d (.int .u32 0)), (.d (.int .u32 0)), (.d (.int .u8 0)), (.d (.int .u8 0)), (.d (.int .u64 0)), (.d (.int .u8 0)), (.d (.int .u32 0)), (.d (.int .u8 0)), (.d (.int .u32 0)), (.d (.int .u32 0)), (.d (.int .u32 0)), (.d (.int .u32 0)), (.d .nils)], none⟩] (fullB 2) false)
(.seq
(.reg [⟨(some 7), .mv (.t 1), none⟩,
⟨(some 8), .bld [(.d (.int .u8 0)), (.d (.int .u32 0))] [(1, 1, (.t 7))], none⟩,
⟨(some 9), .fld 21 (.t 3), none⟩,
⟨none, .store 2 (.t 9) (.t 8), none⟩] (fullB 4) false)
(.seq
(.seq
 (.reg [⟨(some 10), .mv (.t 2), none⟩,
⟨(some 11), .bin .gtr (.t 10) (.k (.d (.int .u32 0))), none⟩] (fullB 2) false)
 (.cond (.t 11)
 (.reg [⟨(some 12), .mv (.t 2), none⟩,
⟨(some 13), .bld [(.d (.int .u8 0)), (.d (.int .u32 0))] [(1, 1, (.t 12))], none⟩,
⟨(some 14), .fld 23 (.t 3), none⟩,
⟨none, .store 2 (.t 14) (.t 13), none⟩] (fullB 4) false)
 .skip))
(.seq
 (.reg [⟨(some 15), .load (some 29) (.t 3), none⟩,
⟨none, .store 29 (.t 6) (.t 15), none⟩] (fullB 2) false)
 .ret))))
def rv : List RV := [.cell 6 (some 29)]
theorem c : cK Try.prog Try.f66.ntmps (Try.f66.body.getD .ret) = some s := by kernel_rfl
theorem b : Try.f66.body = some (Try.f66.body.getD .ret) := by kernel_rfl
theorem r : cRV Try.prog Try.f66.results.toList = some rv := by kernel_rfl
theorem ca : Callable Try.prog 66 = true := by kernel_rfl
theorem enter {args : List SV} {F : Hp} {k nk : Nat} {Q : SV → Hp → Prop} (hargs : SV.oks (fun n => decide (n < k)) args = true) (hF : F.ok (fun n => decide (n < k)) = true) (hN : args.length ≤ 16)
    (h : SW Try.prog 16 k s ⟨argE 0 args, F, k⟩ fun e st' => match e with | .normal => Fin k nk rv Q st' | .ret => Fin k nk rv Q st' | _ => False) : SB Try.prog 66 args F k nk Q :=
  SB.of_body Try.func66 b c r ca hargs hF hN h
end law17_at
namespace shape_Needs
abbrev f : Nat := 67
def s : SCo := (.seq
(.reg [⟨(some 2), .mv (.k (.d (.int .u8 0))), none⟩] (fullB 1) false)
(.seq
(.reg [⟨(some 4), .bld [(.d (.int .u8 0)), (.d (.int .u8 0)), (.d (.int .u8 0)), (.d (.int .u8 0)), (.d (.int .u8 0)), (.d (.int .u8 0)), (.d (.int .u8 0)), (.d (.int .u8 0)), (.d (.int .u8 0))] [(1, 1, (.k (.d (.int .u8 1)))), (2, 1, (.k (.d (.int .u8 1)))), (3, 1, (.k (.d (.int .u8 2)))), (4, 1, (.k (.d (.int .u8 2)))), (5, 1, (.k (.d (.int .u8 2)))), (6, 1, (.k (.d (.int .u8 4)))), (7, 1, (.k (.d (.int .u8 4)))), (8, 1, (.k (.d (.int .u8 2))))], none⟩,
⟨(some 3), .alloc 151 [(.d (.int .u8 0)), (.d (.int .u8 0)), (.d (.int .u8 0)), (.d (.int .u8 0)), (.d (.int .u8 0)), (.d (.int .u8 0)), (.d (.int .u8 0)), (.d (.int .u8 0)), (.d (.int .u8 0))], none⟩,
⟨none, .store 9 (.t 3) (.t 4), none⟩] (fullB 3) false)
(.seq
(.seq
 (.reg [⟨(some 5), .mv (.t 0), none⟩,
⟨(some 6), .conv .i64 (.t 5), none⟩,
⟨(some 7), .bin .geq (.t 6) (.k (.d (.int .i64 9))), none⟩] (fullB 3) false)
 (.cond (.t 7)
 (.seq
 (.reg [⟨(some 2), .mv (.k (.d (.int .u8 0))), none⟩] (fullB 1) false)
 .ret)
 .skip))
(.seq
 (.reg [⟨(some 8), .mv (.t 0), none⟩,
⟨(some 9), .idxA 9 1 (.t 3) (.t 8), none⟩,
⟨(some 10), .load none (.t 9), none⟩,
⟨(some 2), .mv (.t 10), none⟩] (fullB 4) false)
 .ret))))
def rv : List RV := [.tmp 2]
theorem c : cK Try.prog Try.f67.ntmps (Try.f67.body.getD .ret) = some s := by kernel_rfl
theorem b : Try.f67.body = some (Try.f67.body.getD .ret) := by kernel_rfl
theorem r : cRV Try.prog Try.f67.results.toList = some rv := by kernel_rfl
theorem ca : Callable Try.prog 67 = true := by kernel_rfl
theorem enter {args : List SV} {F : Hp} {k nk : Nat} {Q : SV → Hp → Prop} (hargs : SV.oks (fun n => decide (n < k)) args = true) (hF : F.ok (fun n => decide (n < k)) = true) (hN : args.length ≤ 11)
    (h : SW Try.prog 11 k s ⟨argE 0 args, F, k⟩ fun e st' => match e with | .normal => Fin k nk rv Q st' | .ret => Fin k nk rv Q st' | _ => False) : SB Try.prog 67 args F k nk Q :=
  SB.of_body Try.func67 b c r ca hargs hF hN h
end shape_Needs
namespace shape_Shape_none
abbrev f : Nat := 68
def s : SCo := (.seq
(.reg [⟨(some 2), .mv (.k (.d (.bool false))), none⟩] (fullB 1) false)
(.seq
(.reg [⟨(some 3), .mv (.t 0), none⟩,
⟨(some 4), .eqnil false 0 (.t 3), none⟩,
⟨(some 5), .mv (.t 4), none⟩,
⟨(some 6), .mv (.t 0), some (5, false)⟩,
⟨(some 7), .nilc (.t 6), some (5, false)⟩,
⟨(some 8), .fld 1 (.t 7), some (5, false)⟩,
⟨(some 9), .load none (.t 8), some (5, false)⟩,
⟨(some 10), .eqnil false 1 (.t 9), some (5, false)⟩,
⟨(some 11), .pick (.t 5) (.k (.d (.bool true))) (.t 10), none⟩,
⟨(some 2), .mv (.t 11), none⟩] (fullB 10) false)
.ret))
def rv : List RV := [.tmp 2]
theorem c : cK Try.prog Try.f68.ntmps (Try.f68.body.getD .ret) = some s := by kernel_rfl
theorem b : Try.f68.body = some (Try.f68.body.getD .ret) := by kernel_rfl
theorem r : cRV Try.prog Try.f68.results.toList = some rv := by kernel_rfl
theorem ca : Callable Try.prog 68 = true := by kernel_rfl
theorem enter {args : List SV} {F : Hp} {k nk : Nat} {Q : SV → Hp → Prop} (hargs : SV.oks (fun n => decide (n < k)) args = true) (hF : F.ok (fun n => decide (n < k)) = true) (hN : args.length ≤ 12)
    (h : SW Try.prog 12 k s ⟨argE 0 args, F, k⟩ fun e st' => match e with | .normal => Fin k nk rv Q st' | .ret => Fin k nk rv Q st' | _ => False) : SB Try.prog 68 args F k nk Q :=
  SB.of_body Try.func68 b c r ca hargs hF hN h
end shape_Shape_none
namespace shape_Shape_cred
abbrev f : Nat := 69
def s : SCo := (.seq
(.reg [⟨(some 4), .box 37 (.t 1), none⟩,
⟨(some 5), .box 41 (.t 2), none⟩,
⟨(some 6), .alloc 51 [(.d (.int .u8 0)), (.d (.int .u32 0)), (.d (.int .u8 0)), (.d (.int .u32 0)), (.d (.int .u8 0)), (.d (.int .u32 0)), (.d (.int .u32 0)), (.d (.int .u8 0)), (.d (.int .u8 0)), (.d (.int .u64 0)), (.d (.int .i64 0))], none⟩,
⟨(some 7), .mv (.k (.d (.bool false))), none⟩] (fullB 4) false)
(.seq
(.reg [⟨(some 11), .mv (.t 0), none⟩,
⟨(some 12), .nilc (.t 11), none⟩,
⟨(some 13), .fld 0 (.t 12), none⟩,
⟨(some 14), .load none (.t 13), none⟩,
⟨(some 15), .load (some 2) (.t 4), none⟩,
⟨(some 16), .call (.k (.fn (.func 22) [] [])) [(.t 14), (.t 15)], none⟩,
⟨(some 10), .mv (.t 16), none⟩,
⟨(some 17), .ext 0 (.t 10), none⟩,
⟨(some 18), .ext 1 (.t 10), none⟩,
⟨(some 8), .alloc 51 [(.d (.int .u8 0)), (.d (.int .u32 0)), (.d (.int .u8 0)), (.d (.int .u32 0)), (.d (.int .u8 0)), (.d (.int .u32 0)), (.d (.int .u32 0)), (.d (.int .u8 0)), (.d (.int .u8 0)), (.d (.int .u64 0)), (.d (.int .i64 0))], none⟩,
⟨none, .store 11 (.t 8) (.t 17), none⟩,
⟨(some 9), .mv (.t 18), none⟩] [0,
1,
3,
7,
0,
31,
63,
127,
127,
0,
767,
2047] true)
(.seq
(.reg (⟨(some 19), .load (some 11) (.t 8), none⟩ ::
⟨(some 20), .mv (.t 9), none⟩ ::
⟨(some 21), .bin .eql (.t 20) (.k (.d (.int .i64 0))), none⟩ ::
⟨(some 22), .mv (.t 21), none⟩ ::
⟨(some 23), .fld 2 (.t 8), some (22, true)⟩ ::
⟨(some 24), .load (some 2) (.t 23), some (22, true)⟩ ::
⟨(some 25), .fld 12 (.t 5), some (22, true)⟩ ::
⟨(some 26), .load (some 2) (.t 25), some (22, true)⟩ ::
⟨(some 27), .eqv false [true, true] (.t 24) (.t 26), some (22, true)⟩ ::
⟨(some 28), .pick (.t 22) (.t 27) (.k (.d (.bool false))), none⟩ ::
⟨(some 29), .mv (.t 28), none⟩ ::
⟨(some 30), .mv (.t 0), some (29, true)⟩ ::
⟨(some 31), .load (some 2) (.t 4), some (29, true)⟩ ::
⟨(some 32), .load (some 29) (.t 5), some (29, true)⟩ ::
⟨(some 33), .call (.k (.fn (.func 105) [] [])) [(.t 30), (.t 31), (.t 32)], some (29, true)⟩ ::
⟨(some 34), .pick (.t 29) (.t 33) (.k (.d (.bool false))), none⟩ ::
⟨none, .store 11 (.t 6) (.t 19), none⟩ ::
⟨(some 7), .mv (.t 34), none⟩ :: []) (0 ::
0 ::
2 ::
6 ::
14 ::
30 ::
14 ::
78 ::
254 ::
510 ::
1022 ::
2046 ::
2046 ::
2046 ::
16382 ::
32766 ::
32767 ::
131071 :: []) true)
.ret)))
def rv : List RV := [.cell 6 (some 11), .tmp 7]
theorem c : cK Try.prog Try.f69.ntmps (Try.f69.body.getD .ret) = some s := by kernel_rfl
theorem b : Try.f69.body = some (Try.f69.body.getD .ret) := by kernel_rfl
theorem r : cRV Try.prog Try.f69.results.toList = some rv := by kernel_rfl
theorem ca : Callable Try.prog 69 = true := by kernel_rfl
theorem enter {args : List SV} {F : Hp} {k nk : Nat} {Q : SV → Hp → Prop} (hargs : SV.oks (fun n => decide (n < k)) args = true) (hF : F.ok (fun n => decide (n < k)) = true) (hN : args.length ≤ 35)
    (h : SW Try.prog 35 k s ⟨argE 0 args, F, k⟩ fun e st' => match e with | .normal => Fin k nk rv Q st' | .ret => Fin k nk rv Q st' | _ => False) : SB Try.prog 69 args F k nk Q :=
  SB.of_body Try.func69 b c r ca hargs hF hN h
end shape_Shape_cred
namespace shape_Shape_Why_1
abbrev f : Nat := 70
def s : SCo := (.seq
(.reg [⟨(some 1), .mv (.k (.d (.bool false))), none⟩] (fullB 1) false)
(.seq
(.reg [⟨(some 2), .fld 14 (.t 0), none⟩,
⟨(some 3), .load none (.t 2), none⟩,
⟨(some 4), .bin .gtr (.t 3) (.k (.d (.int .u8 8))), none⟩,
⟨(some 1), .mv (.t 4), none⟩] (fullB 4) false)
.ret))
def rv : List RV := [.tmp 1]
theorem c : cK Try.prog Try.f70.ntmps (Try.f70.body.getD .ret) = some s := by kernel_rfl
theorem b : Try.f70.body = some (Try.f70.body.getD .ret) := by kernel_rfl
theorem r : cRV Try.prog Try.f70.results.toList = some rv := by kernel_rfl
theorem ca : Callable Try.prog 70 = true := by kernel_rfl
theorem enter {args : List SV} {F : Hp} {k nk : Nat} {Q : SV → Hp → Prop} (hargs : SV.oks (fun n => decide (n < k)) args = true) (hF : F.ok (fun n => decide (n < k)) = true) (hN : args.length ≤ 5)
    (h : SW Try.prog 5 k s ⟨argE 0 args, F, k⟩ fun e st' => match e with | .normal => Fin k nk rv Q st' | .ret => Fin k nk rv Q st' | _ => False) : SB Try.prog 70 args F k nk Q :=
  SB.of_body Try.func70 b c r ca hargs hF hN h
end shape_Shape_Why_1
namespace shape_Shape_Why_2
abbrev f : Nat := 71
def s : SCo := (.seq
(.reg [⟨(some 2), .mv (.k (.d (.bool false))), none⟩] (fullB 1) false)
(.seq
(.reg [⟨(some 3), .load none (.t 0), none⟩,
⟨(some 4), .load (some 29) (.t 1), none⟩,
⟨(some 5), .call (.k (.fn (.func 72) [] [])) [(.t 3), (.t 4)], none⟩,
⟨(some 6), .not (.t 5), none⟩,
⟨(some 2), .mv (.t 6), none⟩] (fullB 5) false)
.ret))
def rv : List RV := [.tmp 2]
theorem c : cK Try.prog Try.f71.ntmps (Try.f71.body.getD .ret) = some s := by kernel_rfl
theorem b : Try.f71.body = some (Try.f71.body.getD .ret) := by kernel_rfl
theorem r : cRV Try.prog Try.f71.results.toList = some rv := by kernel_rfl
theorem ca : Callable Try.prog 71 = true := by kernel_rfl
theorem enter {args : List SV} {F : Hp} {k nk : Nat} {Q : SV → Hp → Prop} (hargs : SV.oks (fun n => decide (n < k)) args = true) (hF : F.ok (fun n => decide (n < k)) = true) (hN : args.length ≤ 7)
    (h : SW Try.prog 7 k s ⟨argE 0 args, F, k⟩ fun e st' => match e with | .normal => Fin k nk rv Q st' | .ret => Fin k nk rv Q st' | _ => False) : SB Try.prog 71 args F k nk Q :=
  SB.of_body Try.func71 b c r ca hargs hF hN h
end shape_Shape_Why_2
namespace shape_Shape_cart
abbrev f : Nat := 72
def s : SCo := (.seq
(.reg [⟨(some 3), .box 41 (.t 1), none⟩,
⟨(some 4), .mv (.k (.d (.bool false))), none⟩] (fullB 2) false)
(.seq
(.reg [⟨(some 8), .mv (.t 0), none⟩,
⟨(some 9), .nilc (.t 8), none⟩,
⟨(some 10), .fld 1 (.t 9), none⟩,
⟨(some 11), .load none (.t 10), none⟩,
⟨(some 12), .fld 12 (.t 3), none⟩,
⟨(some 13), .load (some 2) (.t 12), none⟩,
⟨(some 14), .look [true, true] true (.agg [(.d (.int .u8 0)), (.d (.int .u32 0)), (.d (.int .u32 0)), (.d (.int .u32 0)), (.d (.int .u32 0)), (.d (.int .u32 0)), (.d (.int .u32 0)), (.d (.int .u32 0)), (.d (.int .u32 0)), (.d (.int .u32 0)), (.d (.int .u64 0)), (.d (.int .u32 0)), (.d (.int .u8 0)), (.d (.int .u32 0)), (.d (.int .u8 0)), (.d (.int .u8 0)), (.d (.int .u32 0)), (.d (.int .u32 0)), (.d (.int .u8 0)), (.d (.int .u8 0)), (.d (.int .u64 0)), (.d (.int .u8 0)), (.d (.int .u32 0)), (.d (.int .u8 0)), (.d (.int .u32 0)), (.d (.int .u32 0)), (.d (.int .u32 0)), (.d (.int .u32 0)), (.d .nils)]) (.t 11) (.t 13) true, none⟩,
⟨(some 7), .mv (.t 14), none⟩,
⟨(some 15), .ext 0 (.t 7), none⟩,
⟨(some 16), .ext 1 (.t 7), none⟩,
⟨(some 5), .alloc 41 [(.d (.int .u8 0)), (.d (.int .u32 0)), (.d (.int .u32 0)), (.d (.int .u32 0)), (.d (.int .u32 0)), (.d (.int .u32 0)), (.d (.int .u32 0)), (.d (.int .u32 0)), (.d (.int .u32 0)), (.d (.int .u32 0)), (.d (.int .u64 0)), (.d (.int .u32 0)), (.d (.int .u8 0)), (.d (.int .u32 0)), (.d (.int .u8 0)), (.d (.int .u8 0)), (.d (.int .u32 0)), (.d (.int .u32 0)), (.d (.int .u8 0)), (.d (.int .u8 0)), (.d (.int .u64 0)), (.d (.int .u8 0)), (.d (.int .u32 0)), (.d (.int .u8 0)), (.d (.int .u32 0)), (.d (.int .u32 0)), (.d (.int .u32 0)), (.d (.int .u32 0)), (.d .nils)], none⟩,
⟨none, .store 29 (.t 5) (.t 15), none⟩,
⟨(some 6), .mv (.t 16), none⟩] [0,
1,
3,
7,
0,
16,
63,
127,
255,
255,
0,
1535,
4095] true)
(.seq
(.seq
 (.reg [⟨(some 17), .fld 14 (.t 3), none⟩,
⟨(some 18), .load none (.t 17), none⟩,
⟨(some 19), .bin .eql (.t 18) (.k (.d (.int .u8 0))), none⟩] (fullB 3) false)
 (.cond (.t 19)
 (.seq
 (.reg [⟨(some 20), .fld 12 (.t 3), none⟩,
⟨(some 21), .load (some 2) (.t 20), none⟩,
⟨(some 22), .fld 0 (.t 3), none⟩,
⟨(some 23), .load (some 2) (.t 22), none⟩,
⟨(some 24), .eqv false [true, true] (.t 21) (.t 23), none⟩,
⟨(some 4), .mv (.t 24), none⟩] (fullB 6) false)
 .ret)
 .skip))
(.seq
 (.reg (⟨(some 25), .mv (.t 6), none⟩ ::
⟨(some 26), .mv (.t 25), none⟩ ::
⟨(some 27), .fld 14 (.t 5), some (26, true)⟩ ::
⟨(some 28), .load none (.t 27), some (26, true)⟩ ::
⟨(some 29), .bin .eql (.t 28) (.k (.d (.int .u8 0))), some (26, true)⟩ ::
⟨(some 30), .pick (.t 26) (.t 29) (.k (.d (.bool false))), none⟩ ::
⟨(some 31), .mv (.t 30), none⟩ ::
⟨(some 32), .fld 12 (.t 5), some (31, true)⟩ ::
⟨(some 33), .load (some 2) (.t 32), some (31, true)⟩ ::
⟨(some 34), .fld 0 (.t 5), some (31, true)⟩ ::
⟨(some 35), .load (some 2) (.t 34), some (31, true)⟩ ::
⟨(some 36), .eqv false [true, true] (.t 33) (.t 35), some (31, true)⟩ ::
⟨(some 37), .pick (.t 31) (.t 36) (.k (.d (.bool false))), none⟩ ::
⟨(some 38), .mv (.t 37), none⟩ ::
⟨(some 39), .load (some 29) (.t 5), some (38, true)⟩ ::
⟨(some 40), .load (some 29) (.t 3), some (38, true)⟩ ::
⟨(some 41), .call (.k (.fn (.func 94) [] [])) [(.t 39), (.t 40)], some (38, true)⟩ ::
⟨(some 42), .pick (.t 38) (.t 41) (.k (.d (.bool false))), none⟩ ::
⟨(some 4), .mv (.t 42), none⟩ :: []) (fullB 19) false)
 .ret))))
def rv : List RV := [.tmp 4]
theorem c : cK Try.prog Try.f72.ntmps (Try.f72.body.getD .ret) = some s := by kernel_rfl
theorem b : Try.f72.body = some (Try.f72.body.getD .ret) := by kernel_rfl
theorem r : cRV Try.prog Try.f72.results.toList = some rv := by kernel_rfl
theorem ca : Callable Try.prog 72 = true := by kernel_rfl
theorem enter {args : List SV} {F : Hp} {k nk : Nat} {Q : SV → Hp → Prop} (hargs : SV.oks (fun n => decide (n < k)) args = true) (hF : F.ok (fun n => decide (n < k)) = true) (hN : args.length ≤ 43)
    (h : SW Try.prog 43 k s ⟨argE 0 args, F, k⟩ fun e st' => match e with | .normal => Fin k nk rv Q st' | .ret => Fin k nk rv Q st' | _ => False) : SB Try.prog 72 args F k nk Q :=
  SB.of_body Try.func72 b c r ca hargs hF hN h
end shape_Shape_cart
namespace shape_Shape_Why_3
abbrev f : Nat := 73
def s : SCo := (.seq
(.reg [⟨(some 2), .mv (.k (.d (.bool false))), none⟩] (fullB 1) false)
(.seq
(.reg [⟨(some 3), .load none (.t 0), none⟩,
⟨(some 4), .not (.t 3), none⟩,
⟨(some 5), .mv (.t 4), none⟩,
⟨(some 6), .load none (.t 1), some (5, true)⟩,
⟨(some 7), .not (.t 6), some (5, true)⟩,
⟨(some 8), .pick (.t 5) (.t 7) (.k (.d (.bool false))), none⟩,
⟨(some 2), .mv (.t 8), none⟩] (fullB 7) false)
.ret))
def rv : List RV := [.tmp 2]
theorem c : cK Try.prog Try.f73.ntmps (Try.f73.body.getD .ret) = some s := by kernel_rfl
theorem b : Try.f73.body = some (Try.f73.body.getD .ret) := by kernel_rfl
theorem r : cRV Try.prog Try.f73.results.toList = some rv := by kernel_rfl
theorem ca : Callable Try.prog 73 = true := by kernel_rfl
theorem enter {args : List SV} {F : Hp} {k nk : Nat} {Q : SV → Hp → Prop} (hargs : SV.oks (fun n => decide (n < k)) args = true) (hF : F.ok (fun n => decide (n < k)) = true) (hN : args.length ≤ 9)
    (h : SW Try.prog 9 k s ⟨argE 0 args, F, k⟩ fun e st' => match e with | .normal => Fin k nk rv Q st' | .ret => Fin k nk rv Q st' | _ => False) : SB Try.prog 73 args F k nk Q :=
  SB.of_body Try.func73 b c r ca hargs hF hN h
end shape_Shape_Why_3
namespace shape_Shape_Why_4
abbrev f : Nat := 74
def s : SCo := (.seq
(.reg [⟨(some 3), .mv (.k (.d (.bool false))), none⟩] (fullB 1) false)
(.seq
(.reg [⟨(some 4), .load none (.t 0), none⟩,
⟨(some 5), .not (.t 4), none⟩,
⟨(some 6), .mv (.t 5), none⟩,
⟨(some 7), .fld 6 (.t 1), some (6, true)⟩,
⟨(some 8), .load none (.t 7), some (6, true)⟩,
⟨(some 9), .fld 11 (.t 2), some (6, true)⟩,
⟨(some 10), .load none (.t 9), some (6, true)⟩,
⟨(some 11), .bin .neq (.t 8) (.t 10), some (6, true)⟩,
⟨(some 12), .pick (.t 6) (.t 11) (.k (.d (.bool false))), none⟩,
⟨(some 3), .mv (.t 12), none⟩] (fullB 10) false)
.ret))
def rv : List RV := [.tmp 3]
theorem c : cK Try.prog Try.f74.ntmps (Try.f74.body.getD .ret) = some s := by kernel_rfl
theorem b : Try.f74.body = some (Try.f74.body.getD .ret) := by kernel_rfl
theorem r : cRV Try.prog Try.f74.results.toList = some rv := by kernel_rfl
theorem ca : Callable Try.prog 74 = true := by kernel_rfl
theorem enter {args : List SV} {F : Hp} {k nk : Nat} {Q : SV → Hp → Prop} (hargs : SV.oks (fun n => decide (n < k)) args = true) (hF : F.ok (fun n => decide (n < k)) = true) (hN : args.length ≤ 13)
    (h : SW Try.prog 13 k s ⟨argE 0 args, F, k⟩ fun e st' => match e with | .normal => Fin k nk rv Q st' | .ret => Fin k nk rv Q st' | _ => False) : SB Try.prog 74 args F k nk Q :=
  SB.of_body Try.func74 b c r ca hargs hF hN h
end shape_Shape_Why_4
namespace shape_Shape_Why_5
abbrev f : Nat := 75
def s : SCo := (.seq
(.reg [⟨(some 2), .mv (.k (.d (.bool false))), none⟩] (fullB 1) false)
(.seq
(.reg [⟨(some 3), .fld 7 (.t 0), none⟩,
⟨(some 4), .load none (.t 3), none⟩,
⟨(some 5), .fld 14 (.t 1), none⟩,
⟨(some 6), .load none (.t 5), none⟩,
⟨(some 7), .call (.k (.fn (.func 67) [] [])) [(.t 6)], none⟩,
⟨(some 8), .bin .and (.t 4) (.t 7), none⟩,
⟨(some 9), .fld 14 (.t 1), none⟩,
⟨(some 10), .load none (.t 9), none⟩,
⟨(some 11), .call (.k (.fn (.func 67) [] [])) [(.t 10)], none⟩,
⟨(some 12), .bin .neq (.t 8) (.t 11), none⟩,
⟨(some 2), .mv (.t 12), none⟩] [0,
1,
0,
4,
12,
31,
0,
64,
220,
511,
1023] true)
.ret))
def rv : List RV := [.tmp 2]
theorem c : cK Try.prog Try.f75.ntmps (Try.f75.body.getD .ret) = some s := by kernel_rfl
theorem b : Try.f75.body = some (Try.f75.body.getD .ret) := by kernel_rfl
theorem r : cRV Try.prog Try.f75.results.toList = some rv := by kernel_rfl
theorem ca : Callable Try.prog 75 = true := by kernel_rfl
theorem enter {args : List SV} {F : Hp} {k nk : Nat} {Q : SV → Hp → Prop} (hargs : SV.oks (fun n => decide (n < k)) args = true) (hF : F.ok (fun n => decide (n < k)) = true) (hN : args.length ≤ 13)
    (h : SW Try.prog 13 k s ⟨argE 0 args, F, k⟩ fun e st' => match e with | .normal => Fin k nk rv Q st' | .ret => Fin k nk rv Q st' | _ => False) : SB Try.prog 75 args F k nk Q :=
  SB.of_body Try.func75 b c r ca hargs hF hN h
end shape_Shape_Why_5
namespace shape_Shape_Why_6
abbrev f : Nat := 76
def s : SCo := (.seq
(.reg [⟨(some 2), .mv (.k (.d (.bool false))), none⟩] (fullB 1) false)
(.seq
(.reg [⟨(some 3), .fld 14 (.t 0), none⟩,
⟨(some 4), .load none (.t 3), none⟩,
⟨(some 5), .bin .eql (.t 4) (.k (.d (.int .u8 1))), none⟩,
⟨(some 6), .mv (.t 5), none⟩,
⟨(some 7), .load none (.t 1), some (6, true)⟩,
⟨(some 8), .nilc (.t 7), some (6, true)⟩,
⟨(some 9), .fld 0 (.t 8), some (6, true)⟩,
⟨(some 10), .load none (.t 9), some (6, true)⟩,
⟨(some 11), .load (some 29) (.t 0), some (6, true)⟩,
⟨(some 12), .call (.k (.fn (.func 49) [] [])) [(.t 10), (.t 11)], some (6, true)⟩,
⟨(some 13), .bin .neq (.t 12) (.k (.d (.int .i64 0))), some (6, true)⟩,
⟨(some 14), .pick (.t 6) (.t 13) (.k (.d (.bool false))), none⟩,
⟨(some 2), .mv (.t 14), none⟩] [0,
1,
3,
7,
15,
31,
63,
127,
15,
511,
1023,
2047,
4095] true)
.ret))
def rv : List RV := [.tmp 2]
theorem c : cK Try.prog Try.f76.ntmps (Try.f76.body.getD .ret) = some s := by kernel_rfl
theorem b : Try.f76.body = some (Try.f76.body.getD .ret) := by kernel_rfl
theorem r : cRV Try.prog Try.f76.results.toList = some rv := by kernel_rfl
theorem ca : Callable Try.prog 76 = true := by kernel_rfl
theorem enter {args : List SV} {F : Hp} {k nk : Nat} {Q : SV → Hp → Prop} (hargs : SV.oks (fun n => decide (n < k)) args = true) (hF : F.ok (fun n => decide (n < k)) = true) (hN : args.length ≤ 15)
    (h : SW Try.prog 15 k s ⟨argE 0 args, F, k⟩ fun e st' => match e with | .normal => Fin k nk rv Q st' | .ret => Fin k nk rv Q st' | _ => False) : SB Try.prog 76 args F k nk Q :=
  SB.of_body Try.func76 b c r ca hargs hF hN h
end shape_Shape_Why_6
namespace shape_Shape_Why_7
abbrev f : Nat := 77
def s : SCo := (.seq
(.reg [⟨(some 2), .mv (.k (.d (.bool false))), none⟩] (fullB 1) false)
(.seq
(.reg [⟨(some 3), .load none (.t 0), none⟩,
⟨(some 4), .load (some 29) (.t 1), none⟩,
⟨(some 5), .call (.k (.fn (.func 78) [] [])) [(.t 3), (.t 4)], none⟩,
⟨(some 6), .not (.t 5), none⟩,
⟨(some 2), .mv (.t 6), none⟩] (fullB 5) false)
.ret))
def rv : List RV := [.tmp 2]
theorem c : cK Try.prog Try.f77.ntmps (Try.f77.body.getD .ret) = some s := by kernel_rfl
theorem b : Try.f77.body = some (Try.f77.body.getD .ret) := by kernel_rfl
theorem r : cRV Try.prog Try.f77.results.toList = some rv := by kernel_rfl
theorem ca : Callable Try.prog 77 = true := by kernel_rfl
theorem enter {args : List SV} {F : Hp} {k nk : Nat} {Q : SV → Hp → Prop} (hargs : SV.oks (fun n => decide (n < k)) args = true) (hF : F.ok (fun n => decide (n < k)) = true) (hN : args.length ≤ 7)
    (h : SW Try.prog 7 k s ⟨argE 0 args, F, k⟩ fun e st' => match e with | .normal => Fin k nk rv Q st' | .ret => Fin k nk rv Q st' | _ => False) : SB Try.prog 77 args F k nk Q :=
  SB.of_body Try.func77 b c r ca hargs hF hN h
end shape_Shape_Why_7
namespace shape_Shape_target
abbrev f : Nat := 78
def s : SCo := (.seq
(.reg [⟨(some 2), .box 76 (.t 0), none⟩,
⟨(some 3), .box 41 (.t 1), none⟩,
⟨(some 4), .mv (.k (.d (.bool false))), none⟩] (fullB 3) false)
(.seq
(.seq
(.reg [⟨(some 7), .fld 14 (.t 3), none⟩,
⟨(some 8), .load none (.t 7), none⟩] (fullB 2) false)
(.block 0
 (.seq
 (.reg [⟨(some 10), .bin .eql (.t 8) (.k (.d (.int .u8 2))), none⟩,
⟨(some 9), .mv (.t 10), none⟩] (fullB 2) false)
 (.cond (.t 9)
 (.seq
 (.reg [⟨(some 12), .load none (.t 2), none⟩,
⟨(some 13), .fld 21 (.t 3), none⟩,
⟨(some 14), .load (some 2) (.t 13), none⟩,
⟨(some 15), .load (some 29) (.t 3), none⟩,
⟨(some 16), .call (.k (.fn (.func 69) [] [])) [(.t 12), (.t 14), (.t 15)], none⟩,
⟨(some 11), .mv (.t 16), none⟩,
⟨(some 17), .ext 0 (.t 11), none⟩,
⟨(some 18), .ext 1 (.t 11), none⟩,
⟨(some 5), .alloc 51 [(.d (.int .u8 0)), (.d (.int .u32 0)), (.d (.int .u8 0)), (.d (.int .u32 0)), (.d (.int .u8 0)), (.d (.int .u32 0)), (.d (.int .u32 0)), (.d (.int .u8 0)), (.d (.int .u8 0)), (.d (.int .u64 0)), (.d (.int .i64 0))], none⟩,
⟨none, .store 11 (.t 5) (.t 17), none⟩,
⟨(some 6), .mv (.t 18), none⟩] (fullB 11) false)
 (.seq
  (.reg [⟨(some 19), .mv (.t 6), none⟩,
⟨(some 20), .mv (.t 19), none⟩,
⟨(some 21), .load none (.t 2), some (20, true)⟩,
⟨(some 22), .nilc (.t 21), some (20, true)⟩,
⟨(some 23), .fld 0 (.t 22), some (20, true)⟩,
⟨(some 24), .load none (.t 23), some (20, true)⟩,
⟨(some 25), .fld 15 (.t 3), some (20, true)⟩,
⟨(some 26), .load (some 2) (.t 25), some (20, true)⟩,
⟨(some 27), .fld 21 (.t 3), some (20, true)⟩,
⟨(some 28), .load (some 2) (.t 27), some (20, true)⟩,
⟨(some 29), .call (.k (.fn (.func 48) [] [])) [(.t 24), (.t 26), (.t 28)], some (20, true)⟩,
⟨(some 30), .pick (.t 20) (.t 29) (.k (.d (.bool false))), none⟩,
⟨(some 4), .mv (.t 30), none⟩] [0,
1,
3,
7,
15,
31,
3,
67,
3,
259,
1023,
2047,
4095] true)
  .ret))
 (.seq
 (.seq
  (.reg [⟨(some 32), .bin .eql (.t 8) (.k (.d (.int .u8 4))), none⟩,
⟨(some 31), .mv (.t 32), none⟩] (fullB 2) false)
  (.cond (.t 31)
  .skip
  (.reg [⟨(some 33), .bin .eql (.t 8) (.k (.d (.int .u8 5))), none⟩,
⟨(some 31), .mv (.t 33), none⟩] (fullB 2) false)))
 (.cond (.t 31)
  (.seq
  (.reg [⟨(some 34), .load none (.t 2), none⟩,
⟨(some 35), .fld 21 (.t 3), none⟩,
⟨(some 36), .load (some 2) (.t 35), none⟩,
⟨(some 37), .load (some 29) (.t 3), none⟩,
⟨(some 38), .call (.k (.fn (.func 106) [] [])) [(.t 34), (.t 36), (.t 37)], none⟩,
⟨(some 4), .mv (.t 38), none⟩] (fullB 6) false)
  .ret)
  (.seq
  (.seq
  (.reg [⟨(some 40), .bin .eql (.t 8) (.k (.d (.int .u8 6))), none⟩,
⟨(some 39), .mv (.t 40), none⟩] (fullB 2) false)
  (.cond (.t 39)
  .skip
  (.reg [⟨(some 41), .bin .eql (.t 8) (.k (.d (.int .u8 7))), none⟩,
⟨(some 39), .mv (.t 41), none⟩] (fullB 2) false)))
  (.cond (.t 39)
  (.seq
  (.reg [⟨(some 42), .load none (.t 2), none⟩,
⟨(some 43), .fld 21 (.t 3), none⟩,
⟨(some 44), .load (some 2) (.t 43), none⟩,
⟨(some 45), .fld 23 (.t 3), none⟩,
⟨(some 46), .load (some 2) (.t 45), none⟩,
⟨(some 47), .bld [(.d (.int .u8 0)), (.d (.int .u32 0)), (.d (.int .u8 0)), (.d (.int .u32 0))] [(0, 2, (.t 44)), (2, 2, (.t 46))], none⟩,
⟨(some 48), .load (some 29) (.t 3), none⟩,
⟨(some 49), .call (.k (.fn (.func 107) [] [])) [(.t 42), (.t 47), (.t 48)], none⟩,
⟨(some 4), .mv (.t 49), none⟩] (fullB 9) false)
  .ret)
  (.seq
  (.reg [⟨(some 51), .bin .eql (.t 8) (.k (.d (.int .u8 8))), none⟩,
⟨(some 50), .mv (.t 51), none⟩] (fullB 2) false)
  (.cond (.t 50)
   (.seq
   (.reg [⟨(some 52), .fld 28 (.t 3), none⟩,
⟨(some 53), .load none (.t 52), none⟩,
⟨(some 54), .mkf (.func 109) [] [(.t 2), (.t 3)], none⟩,
⟨(some 55), .call (.k (.fn (.func 108) [] [])) [(.t 53), (.t 54)], none⟩,
⟨(some 56), .not (.t 55), none⟩,
⟨(some 4), .mv (.t 56), none⟩] (fullB 6) false)
   .ret)
   .skip))))))))))
(.seq
(.reg [⟨(some 4), .mv (.k (.d (.bool true))), none⟩] (fullB 1) false)
.ret)))
def rv : List RV := [.tmp 4]
theorem c : cK Try.prog Try.f78.ntmps (Try.f78.body.getD .ret) = some s := by kernel_rfl
theorem b : Try.f78.body = some (Try.f78.body.getD .ret) := by kernel_rfl
theorem r : cRV Try.prog Try.f78.results.toList = some rv := by kernel_rfl
theorem ca : Callable Try.prog 78 = true := by kernel_rfl
theorem enter {args : List SV} {F : Hp} {k nk : Nat} {Q : SV → Hp → Prop} (hargs : SV.oks (fun n => decide (n < k)) args = true) (hF : F.ok (fun n => decide (n < k)) = true) (hN : args.length ≤ 57)
    (h : SW Try.prog 57 k s ⟨argE 0 args, F, k⟩ fun e st' => match e with | .normal => Fin k nk rv Q st' | .ret => Fin k nk rv Q st' | _ => False) : SB Try.prog 78 args F k nk Q :=
  SB.of_body Try.func78 b c r ca hargs hF hN h
end shape_Shape_target
namespace shape_Shape_Op
abbrev f : Nat := 79
def s : SCo := (.seq
(.reg [⟨(some 3), .box 37 (.t 1), none⟩,
⟨(some 4), .alloc 41 [(.d (.int .u8 0)), (.d (.int .u32 0)), (.d (.int .u32 0)), (.d (.int .u32 0)), (.d (.int .u32 0)), (.d (.int .u32 0)), (.d (.int .u32 0)), (.d (.int .u32 0)), (.d (.int .u32 0)), (.d (.int .u32 0)), (.d (.int .u64 0)), (.d (.int .u32 0)), (.d (.int .u8 0)), (.d (.int .u32 0)), (.d (.int .u8 0)), (.d (.int .u8 0)), (.d (.int .u32 0)), (.d (.int .u32 0)), (.d (.int .u8 0)), (.d (.int .u8 0)), (.d (.int .u64 0)), (.d (.int .u8 0)), (.d (.int .u32 0)), (.d (.int .u8 0)), (.d (.int .u32 0)), (.d (.int .u32 0)), (.d (.int .u32 0)), (.d (.int .u32 0)), (.d .nils)], none⟩,
⟨(some 5), .mv (.k (.d (.bool false))), none⟩] (fullB 3) false)
(.seq
(.seq
(.reg [⟨(some 8), .mv (.t 0), none⟩,
⟨(some 9), .call (.k (.fn (.func 68) [] [])) [(.t 8)], none⟩] (fullB 2) false)
(.cond (.t 9)
 (.seq
 (.reg [⟨(some 10), .bld [(.d (.int .u8 0)), (.d (.int .u32 0)), (.d (.int .u32 0)), (.d (.int .u32 0)), (.d (.int .u32 0)), (.d (.int .u32 0)), (.d (.int .u32 0)), (.d (.int .u32 0)), (.d (.int .u32 0)), (.d (.int .u32 0)), (.d (.int .u64 0)), (.d (.int .u32 0)), (.d (.int .u8 0)), (.d (.int .u32 0)), (.d (.int .u8 0)), (.d (.int .u8 0)), (.d (.int .u32 0)), (.d (.int .u32 0)), (.d (.int .u8 0)), (.d (.int .u8 0)), (.d (.int .u64 0)), (.d (.int .u8 0)), (.d (.int .u32 0)), (.d (.int .u8 0)), (.d (.int .u32 0)), (.d (.int .u32 0)), (.d (.int .u32 0)), (.d (.int .u32 0)), (.d .nils)] [], none⟩,
⟨none, .store 29 (.t 4) (.t 10), none⟩,
⟨(some 5), .mv (.k (.d (.bool false))), none⟩] (fullB 3) false)
 .ret)
 .skip))
(.seq
(.reg [⟨(some 12), .mv (.t 0), none⟩,
⟨(some 13), .nilc (.t 12), none⟩,
⟨(some 14), .fld 1 (.t 13), none⟩,
⟨(some 15), .load none (.t 14), none⟩,
⟨(some 16), .load (some 2) (.t 3), none⟩,
⟨(some 17), .look [true, true] true (.agg [(.d (.int .u8 0)), (.d (.int .u32 0)), (.d (.int .u32 0)), (.d (.int .u32 0)), (.d (.int .u32 0)), (.d (.int .u32 0)), (.d (.int .u32 0)), (.d (.int .u32 0)), (.d (.int .u32 0)), (.d (.int .u32 0)), (.d (.int .u64 0)), (.d (.int .u32 0)), (.d (.int .u8 0)), (.d (.int .u32 0)), (.d (.int .u8 0)), (.d (.int .u8 0)), (.d (.int .u32 0)), (.d (.int .u32 0)), (.d (.int .u8 0)), (.d (.int .u8 0)), (.d (.int .u64 0)), (.d (.int .u8 0)), (.d (.int .u32 0)), (.d (.int .u8 0)), (.d (.int .u32 0)), (.d (.int .u32 0)), (.d (.int .u32 0)), (.d (.int .u32 0)), (.d .nils)]) (.t 15) (.t 16) true, none⟩,
⟨(some 11), .mv (.t 17), none⟩,
⟨(some 18), .ext 0 (.t 11), none⟩,
⟨(some 19), .ext 1 (.t 11), none⟩,
⟨(some 6), .alloc 41 [(.d (.int .u8 0)), (.d (.int .u32 0)), (.d (.int .u32 0)), (.d (.int .u32 0)), (.d (.int .u32 0)), (.d (.int .u32 0)), (.d (.int .u32 0)), (.d (.int .u32 0)), (.d (.int .u32 0)), (.d (.int .u32 0)), (.d (.int .u64 0)), (.d (.int .u32 0)), (.d (.int .u8 0)), (.d (.int .u32 0)), (.d (.int .u8 0)), (.d (.int .u8 0)), (.d (.int .u32 0)), (.d (.int .u32 0)), (.d (.int .u8 0)), (.d (.int .u8 0)), (.d (.int .u64 0)), (.d (.int .u8 0)), (.d (.int .u32 0)), (.d (.int .u8 0)), (.d (.int .u32 0)), (.d (.int .u32 0)), (.d (.int .u32 0)), (.d (.int .u32 0)), (.d .nils)], none⟩,
⟨none, .store 29 (.t 6) (.t 18), none⟩,
⟨(some 7), .mv (.t 19), none⟩] [0,
1,
3,
7,
0,
31,
63,
127,
127,
0,
767,
2047] true)
(.seq
 (.reg [⟨(some 20), .fld 28 (.t 6), none⟩,
⟨(some 21), .load none (.t 20), none⟩,
⟨(some 22), .call (.k (.fn (.func 110) [] [])) [(.t 21)], none⟩,
⟨(some 23), .fld 28 (.t 6), none⟩,
⟨none, .store 1 (.t 23) (.t 22), none⟩] (fullB 5) false)
 (.seq
 (.reg [⟨(some 24), .load (some 29) (.t 6), none⟩,
⟨(some 25), .mv (.t 7), none⟩,
⟨none, .store 29 (.t 4) (.t 24), none⟩,
⟨(some 5), .mv (.t 25), none⟩] (fullB 4) false)
 .ret)))))
def rv : List RV := [.cell 4 (some 29), .tmp 5]
theorem c : cK Try.prog Try.f79.ntmps (Try.f79.body.getD .ret) = some s := by kernel_rfl
theorem b : Try.f79.body = some (Try.f79.body.getD .ret) := by kernel_rfl
theorem r : cRV Try.prog Try.f79.results.toList = some rv := by kernel_rfl
theorem ca : Callable Try.prog 79 = true := by kernel_rfl
theorem enter {args : List SV} {F : Hp} {k nk : Nat} {Q : SV → Hp → Prop} (hargs : SV.oks (fun n => decide (n < k)) args = true) (hF : F.ok (fun n => decide (n < k)) = true) (hN : args.length ≤ 26)
    (h : SW Try.prog 26 k s ⟨argE 0 args, F, k⟩ fun e st' => match e with | .normal => Fin k nk rv Q st' | .ret => Fin k nk rv Q st' | _ => False) : SB Try.prog 79 args F k nk Q :=
  SB.of_body Try.func79 b c r ca hargs hF hN h
end shape_Shape_Op
namespace shape_Shape_before
abbrev f : Nat := 105
def s : SCo := (.seq
(.reg [⟨(some 4), .box 37 (.t 1), none⟩,
⟨(some 5), .box 41 (.t 2), none⟩,
⟨(some 6), .mv (.k (.d (.bool false))), none⟩] (fullB 3) false)
(.seq
(.reg [⟨(some 10), .mv (.t 0), none⟩,
⟨(some 11), .nilc (.t 10), none⟩,
⟨(some 12), .fld 1 (.t 11), none⟩,
⟨(some 13), .load none (.t 12), none⟩,
⟨(some 14), .load (some 2) (.t 4), none⟩,
⟨(some 15), .look [true, true] true (.agg [(.d (.int .u8 0)), (.d (.int .u32 0)), (.d (.int .u32 0)), (.d (.int .u32 0)), (.d (.int .u32 0)), (.d (.int .u32 0)), (.d (.int .u32 0)), (.d (.int .u32 0)), (.d (.int .u32 0)), (.d (.int .u32 0)), (.d (.int .u64 0)), (.d (.int .u32 0)), (.d (.int .u8 0)), (.d (.int .u32 0)), (.d (.int .u8 0)), (.d (.int .u8 0)), (.d (.int .u32 0)), (.d (.int .u32 0)), (.d (.int .u8 0)), (.d (.int .u8 0)), (.d (.int .u64 0)), (.d (.int .u8 0)), (.d (.int .u32 0)), (.d (.int .u8 0)), (.d (.int .u32 0)), (.d (.int .u32 0)), (.d (.int .u32 0)), (.d (.int .u32 0)), (.d .nils)]) (.t 13) (.t 14) true, none⟩,
⟨(some 9), .mv (.t 15), none⟩,
⟨(some 16), .ext 0 (.t 9), none⟩,
⟨(some 17), .ext 1 (.t 9), none⟩,
⟨(some 7), .alloc 41 [(.d (.int .u8 0)), (.d (.int .u32 0)), (.d (.int .u32 0)), (.d (.int .u32 0)), (.d (.int .u32 0)), (.d (.int .u32 0)), (.d (.int .u32 0)), (.d (.int .u32 0)), (.d (.int .u32 0)), (.d (.int .u32 0)), (.d (.int .u64 0)), (.d (.int .u32 0)), (.d (.int .u8 0)), (.d (.int .u32 0)), (.d (.int .u8 0)), (.d (.int .u8 0)), (.d (.int .u32 0)), (.d (.int .u32 0)), (.d (.int .u8 0)), (.d (.int .u8 0)), (.d (.int .u64 0)), (.d (.int .u8 0)), (.d (.int .u32 0)), (.d (.int .u8 0)), (.d (.int .u32 0)), (.d (.int .u32 0)), (.d (.int .u32 0)), (.d (.int .u32 0)), (.d .nils)], none⟩,
⟨none, .store 29 (.t 7) (.t 16), none⟩,
⟨(some 8), .mv (.t 17), none⟩] [0,
1,
3,
7,
0,
31,
63,
127,
127,
0,
767,
2047] true)
(.seq
(.reg [⟨(some 18), .mv (.t 8), none⟩,
⟨(some 19), .mv (.t 18), none⟩,
⟨(some 20), .load (some 29) (.t 7), some (19, true)⟩,
⟨(some 21), .load (some 29) (.t 5), some (19, true)⟩,
⟨(some 22), .call (.k (.fn (.func 94) [] [])) [(.t 20), (.t 21)], some (19, true)⟩,
⟨(some 23), .pick (.t 19) (.t 22) (.k (.d (.bool false))), none⟩,
⟨(some 6), .mv (.t 23), none⟩] (fullB 7) false)
.ret)))
def rv : List RV := [.tmp 6]
theorem c : cK Try.prog Try.f105.ntmps (Try.f105.body.getD .ret) = some s := by kernel_rfl
theorem b : Try.f105.body = some (Try.f105.body.getD .ret) := by kernel_rfl
theorem r : cRV Try.prog Try.f105.results.toList = some rv := by kernel_rfl
theorem ca : Callable Try.prog 105 = true := by kernel_rfl
theorem enter {args : List SV} {F : Hp} {k nk : Nat} {Q : SV → Hp → Prop} (hargs : SV.oks (fun n => decide (n < k)) args = true) (hF : F.ok (fun n => decide (n < k)) = true) (hN : args.length ≤ 24)
    (h : SW Try.prog 24 k s ⟨argE 0 args, F, k⟩ fun e st' => match e with | .normal => Fin k nk rv Q st' | .ret => Fin k nk rv Q st' | _ => False) : SB Try.prog 105 args F k nk Q :=
  SB.of_body Try.func105 b c r ca hargs hF hN h
end shape_Shape_before
namespace shape_Shape_line
abbrev f : Nat := 106
def s : SCo := (.seq
(.reg [⟨(some 4), .box 37 (.t 1), none⟩,
⟨(some 5), .box 41 (.t 2), none⟩,
⟨(some 6), .mv (.k (.d (.bool false))), none⟩] (fullB 3) false)
(.seq
(.reg (⟨(some 7), .mv (.t 0), none⟩ ::
⟨(some 8), .nilc (.t 7), none⟩ ::
⟨(some 9), .fld 2 (.t 8), none⟩ ::
⟨(some 10), .load none (.t 9), none⟩ ::
⟨(some 11), .load (some 2) (.t 4), none⟩ ::
⟨(some 12), .look [true, true] true (.d (.int .i64 0)) (.t 10) (.t 11) false, none⟩ ::
⟨(some 13), .bin .gtr (.t 12) (.k (.d (.int .i64 0))), none⟩ ::
⟨(some 14), .mv (.t 13), none⟩ ::
⟨(some 15), .mv (.t 0), some (14, true)⟩ ::
⟨(some 16), .nilc (.t 15), some (14, true)⟩ ::
⟨(some 17), .fld 1 (.t 16), some (14, true)⟩ ::
⟨(some 18), .load none (.t 17), some (14, true)⟩ ::
⟨(some 19), .load (some 2) (.t 4), some (14, true)⟩ ::
⟨(some 20), .look [true, true] true (.agg [(.d (.int .u8 0)), (.d (.int .u32 0)), (.d (.int .u32 0)), (.d (.int .u32 0)), (.d (.int .u32 0)), (.d (.int .u32 0)), (.d (.int .u32 0)), (.d (.int .u32 0)), (.d (.int .u32 0)), (.d (.int .u32 0)), (.d (.int .u64 0)), (.d (.int .u32 0)), (.d (.int .u8 0)), (.d (.int .u32 0)), (.d (.int .u8 0)), (.d (.int .u8 0)), (.d (.int .u32 0)), (.d (.int .u32 0)), (.d (.int .u8 0)), (.d (.int .u8 0)), (.d (.int .u64 0)), (.d (.int .u8 0)), (.d (.int .u32 0)), (.d (.int .u8 0)), (.d (.int .u32 0)), (.d (.int .u32 0)), (.d (.int .u32 0)), (.d (.int .u32 0)), (.d .nils)]) (.t 18) (.t 19) false, some (14, true)⟩ ::
⟨(some 21), .field 12 (some 2) (.t 20), some (14, true)⟩ ::
⟨(some 22), .fld 12 (.t 5), some (14, true)⟩ ::
⟨(some 23), .load (some 2) (.t 22), some (14, true)⟩ ::
⟨(some 24), .eqv false [true, true] (.t 21) (.t 23), some (14, true)⟩ ::
⟨(some 25), .pick (.t 14) (.t 24) (.k (.d (.bool false))), none⟩ ::
⟨(some 26), .mv (.t 25), none⟩ ::
⟨(some 27), .mv (.t 0), some (26, true)⟩ ::
⟨(some 28), .load (some 2) (.t 4), some (26, true)⟩ ::
⟨(some 29), .load (some 29) (.t 5), some (26, true)⟩ ::
⟨(some 30), .call (.k (.fn (.func 105) [] [])) [(.t 27), (.t 28), (.t 29)], some (26, true)⟩ ::
⟨(some 31), .pick (.t 26) (.t 30) (.k (.d (.bool false))), none⟩ ::
⟨(some 6), .mv (.t 31), none⟩ :: []) (0 ::
1 ::
3 ::
7 ::
0 ::
31 ::
63 ::
127 ::
255 ::
511 ::
1023 ::
2047 ::
255 ::
8191 ::
16383 ::
255 ::
33023 ::
131071 ::
262143 ::
524287 ::
1048575 ::
1048575 ::
1048575 ::
8388607 ::
16777215 ::
33554431 :: []) true)
.ret))
def rv : List RV := [.tmp 6]
theorem c : cK Try.prog Try.f106.ntmps (Try.f106.body.getD .ret) = some s := by kernel_rfl
theorem b : Try.f106.body = some (Try.f106.body.getD .ret) := by kernel_rfl
theorem r : cRV Try.prog Try.f106.results.toList = some rv := by kernel_rfl
theorem ca : Callable Try.prog 106 = true := by kernel_rfl
theorem enter {args : List SV} {F : Hp} {k nk : Nat} {Q : SV → Hp → Prop} (hargs : SV.oks (fun n => decide (n < k)) args = true) (hF : F.ok (fun n => decide (n < k)) = true) (hN : args.length ≤ 32)
    (h : SW Try.prog 32 k s ⟨argE 0 args, F, k⟩ fun e st' => match e with | .normal => Fin k nk rv Q st' | .ret => Fin k nk rv Q st' | _ => False) : SB Try.prog 106 args F k nk Q :=
  SB.of_body Try.func106 b c r ca hargs hF hN h
end shape_Shape_line
namespace shape_Shape_claim
abbrev f : Nat := 107
def s : SCo := (.seq
(.reg [⟨(some 4), .box 120 (.t 1), none⟩,
⟨(some 5), .box 41 (.t 2), none⟩,
⟨(some 6), .mv (.k (.d (.bool false))), none⟩] (fullB 3) false)
(.seq
(.reg [⟨(some 10), .mv (.t 0), none⟩,
⟨(some 11), .nilc (.t 10), none⟩,
⟨(some 12), .fld 3 (.t 11), none⟩,
⟨(some 13), .load none (.t 12), none⟩,
⟨(some 14), .fld 2 (.t 4), none⟩,
⟨(some 15), .load (some 2) (.t 14), none⟩,
⟨(some 16), .look [true, true] true (.agg [(.d (.int .u8 0)), (.d (.int .u32 0))]) (.t 13) (.t 15) true, none⟩,
⟨(some 9), .mv (.t 16), none⟩,
⟨(some 17), .ext 0 (.t 9), none⟩,
⟨(some 18), .ext 1 (.t 9), none⟩,
⟨(some 7), .alloc 37 [(.d (.int .u8 0)), (.d (.int .u32 0))], none⟩,
⟨none, .store 2 (.t 7) (.t 17), none⟩,
⟨(some 8), .mv (.t 18), none⟩] [0,
1,
3,
7,
0,
16,
63,
127,
255,
255,
0,
1535,
4095] true)
(.seq
(.reg (⟨(some 19), .mv (.t 0), none⟩ ::
⟨(some 20), .fld 0 (.t 4), none⟩ ::
⟨(some 21), .load (some 2) (.t 20), none⟩ ::
⟨(some 22), .load (some 29) (.t 5), none⟩ ::
⟨(some 23), .call (.k (.fn (.func 106) [] [])) [(.t 19), (.t 21), (.t 22)], none⟩ ::
⟨(some 24), .mv (.t 23), none⟩ ::
⟨(some 25), .fld 2 (.t 4), some (24, true)⟩ ::
⟨(some 26), .load (some 2) (.t 25), some (24, true)⟩ ::
⟨(some 27), .fld 0 (.t 4), some (24, true)⟩ ::
⟨(some 28), .load (some 2) (.t 27), some (24, true)⟩ ::
⟨(some 29), .eqv false [true, true] (.t 26) (.t 28), some (24, true)⟩ ::
⟨(some 30), .mv (.t 29), some (24, true)⟩ ::
⟨(some 31), .mv (.t 8), some (30, false)⟩ ::
⟨(some 32), .mv (.t 31), some (30, false)⟩ ::
⟨(some 33), .load (some 2) (.t 7), some (32, true)⟩ ::
⟨(some 34), .fld 0 (.t 4), some (32, true)⟩ ::
⟨(some 35), .load (some 2) (.t 34), some (32, true)⟩ ::
⟨(some 36), .eqv false [true, true] (.t 33) (.t 35), some (32, true)⟩ ::
⟨(some 37), .pick (.t 32) (.t 36) (.k (.d (.bool false))), some (30, false)⟩ ::
⟨(some 38), .mv (.t 37), some (30, false)⟩ ::
⟨(some 39), .mv (.t 0), some (38, true)⟩ ::
⟨(some 40), .fld 2 (.t 4), some (38, true)⟩ ::
⟨(some 41), .load (some 2) (.t 40), some (38, true)⟩ ::
⟨(some 42), .load (some 29) (.t 5), some (38, true)⟩ ::
⟨(some 43), .call (.k (.fn (.func 105) [] [])) [(.t 39), (.t 41), (.t 42)], some (38, true)⟩ ::
⟨(some 44), .pick (.t 38) (.t 43) (.k (.d (.bool false))), some (30, false)⟩ ::
⟨(some 45), .pick (.t 30) (.k (.d (.bool true))) (.t 44), some (24, true)⟩ ::
⟨(some 46), .pick (.t 24) (.t 45) (.k (.d (.bool false))), none⟩ ::
⟨(some 6), .mv (.t 46), none⟩ :: []) (fullB 29) false)
.ret)))
def rv : List RV := [.tmp 6]
theorem c : cK Try.prog Try.f107.ntmps (Try.f107.body.getD .ret) = some s := by kernel_rfl
theorem b : Try.f107.body = some (Try.f107.body.getD .ret) := by kernel_rfl
theorem r : cRV Try.prog Try.f107.results.toList = some rv := by kernel_rfl
theorem ca : Callable Try.prog 107 = true := by kernel_rfl
theorem enter {args : List SV} {F : Hp} {k nk : Nat} {Q : SV → Hp → Prop} (hargs : SV.oks (fun n => decide (n < k)) args = true) (hF : F.ok (fun n => decide (n < k)) = true) (hN : args.length ≤ 47)
    (h : SW Try.prog 47 k s ⟨argE 0 args, F, k⟩ fun e st' => match e with | .normal => Fin k nk rv Q st' | .ret => Fin k nk rv Q st' | _ => False) : SB Try.prog 107 args F k nk Q :=
  SB.of_body Try.func107 b c r ca hargs hF hN h
end shape_Shape_claim
namespace slices_ContainsFunc_Lapi_Claim_api_Claim
abbrev f : Nat := 108
def s : SCo := (.seq
(.reg [⟨(some 4), .mv (.k (.d (.bool false))), none⟩] (fullB 1) false)
(.seq
(.reg [⟨(some 5), .mv (.t 0), none⟩,
⟨(some 6), .mv (.t 1), none⟩,
⟨(some 7), .call (.k (.fn (.func 114) [] [])) [(.t 5), (.t 6)], none⟩,
⟨(some 8), .bin .geq (.t 7) (.k (.d (.int .i64 0))), none⟩,
⟨(some 4), .mv (.t 8), none⟩] (fullB 5) false)
.ret))
def rv : List RV := [.tmp 4]
theorem c : cK Try.prog Try.f108.ntmps (Try.f108.body.getD .ret) = some s := by kernel_rfl
theorem b : Try.f108.body = some (Try.f108.body.getD .ret) := by kernel_rfl
theorem r : cRV Try.prog Try.f108.results.toList = some rv := by kernel_rfl
theorem ca : Callable Try.prog 108 = true := by kernel_rfl
theorem enter {args : List SV} {F : Hp} {k nk : Nat} {Q : SV → Hp → Prop} (hargs : SV.oks (fun n => decide (n < k)) args = true) (hF : F.ok (fun n => decide (n < k)) = true) (hN : args.length ≤ 9)
    (h : SW Try.prog 9 k s ⟨argE 0 args, F, k⟩ fun e st' => match e with | .normal => Fin k nk rv Q st' | .ret => Fin k nk rv Q st' | _ => False) : SB Try.prog 108 args F k nk Q :=
  SB.of_body Try.func108 b c r ca hargs hF hN h
end slices_ContainsFunc_Lapi_Claim_api_Claim
namespace shape_Shape_target_1
abbrev f : Nat := 109
def s : SCo := (.seq
(.reg [⟨(some 3), .box 120 (.t 0), none⟩,
⟨(some 4), .mv (.k (.d (.bool false))), none⟩] (fullB 2) false)
(.seq
(.reg [⟨(some 5), .load none (.t 1), none⟩,
⟨(some 6), .load (some 4) (.t 3), none⟩,
⟨(some 7), .load (some 29) (.t 2), none⟩,
⟨(some 8), .call (.k (.fn (.func 107) [] [])) [(.t 5), (.t 6), (.t 7)], none⟩,
⟨(some 9), .not (.t 8), none⟩,
⟨(some 4), .mv (.t 9), none⟩] (fullB 6) false)
.ret))
def rv : List RV := [.tmp 4]
theorem c : cK Try.prog Try.f109.ntmps (Try.f109.body.getD .ret) = some s := by kernel_rfl
theorem b : Try.f109.body = some (Try.f109.body.getD .ret) := by kernel_rfl
theorem r : cRV Try.prog Try.f109.results.toList = some rv := by kernel_rfl
theorem ca : Callable Try.prog 109 = true := by kernel_rfl
theorem enter {args : List SV} {F : Hp} {k nk : Nat} {Q : SV → Hp → Prop} (hargs : SV.oks (fun n => decide (n < k)) args = true) (hF : F.ok (fun n => decide (n < k)) = true) (hN : args.length ≤ 10)
    (h : SW Try.prog 10 k s ⟨argE 0 args, F, k⟩ fun e st' => match e with | .normal => Fin k nk rv Q st' | .ret => Fin k nk rv Q st' | _ => False) : SB Try.prog 109 args F k nk Q :=
  SB.of_body Try.func109 b c r ca hargs hF hN h
end shape_Shape_target_1
namespace slices_Clone_Lapi_Claim_api_Claim
abbrev f : Nat := 110
def s : SCo := (.seq
(.reg [⟨(some 2), .mv (.k (.d .nils)), none⟩] (fullB 1) false)
(.seq
(.seq
(.reg [⟨(some 3), .mv (.t 0), none⟩,
⟨(some 4), .eqnil false 3 (.t 3), none⟩] (fullB 2) false)
(.cond (.t 4)
 (.seq
 (.reg [⟨(some 2), .mv (.k (.d .nils)), none⟩] (fullB 1) false)
 .ret)
 .skip))
(.seq
(.reg [⟨(some 5), .bsl 120 4 0 [] [], none⟩,
⟨(some 6), .mv (.t 0), none⟩,
⟨(some 7), .app 120 4 16 (.t 5) (.t 6), none⟩,
⟨(some 2), .mv (.t 7), none⟩] (fullB 4) false)
.ret)))
def rv : List RV := [.tmp 2]
theorem c : cK Try.prog Try.f110.ntmps (Try.f110.body.getD .ret) = some s := by kernel_rfl
theorem b : Try.f110.body = some (Try.f110.body.getD .ret) := by kernel_rfl
theorem r : cRV Try.prog Try.f110.results.toList = some rv := by kernel_rfl
theorem ca : Callable Try.prog 110 = true := by kernel_rfl
theorem enter {args : List SV} {F : Hp} {k nk : Nat} {Q : SV → Hp → Prop} (hargs : SV.oks (fun n => decide (n < k)) args = true) (hF : F.ok (fun n => decide (n < k)) = true) (hN : args.length ≤ 8)
    (h : SW Try.prog 8 k s ⟨argE 0 args, F, k⟩ fun e st' => match e with | .normal => Fin k nk rv Q st' | .ret => Fin k nk rv Q st' | _ => False) : SB Try.prog 110 args F k nk Q :=
  SB.of_body Try.func110 b c r ca hargs hF hN h
end slices_Clone_Lapi_Claim_api_Claim
namespace slices_IndexFunc_Lapi_Claim_api_Claim
abbrev f : Nat := 114
def s : SCo := (.seq
(.reg [⟨(some 4), .mv (.k (.d (.int .i64 0))), none⟩] (fullB 1) false)
(.seq
(.seq
(.reg [⟨(some 6), .mv (.t 0), none⟩,
⟨(some 7), .len (.t 6), none⟩,
⟨(some 8), .mv (.k (.d (.int .i64 0))), none⟩] (fullB 3) false)
(.block 0
 (.loop
 (.seq
 (.reg [⟨(some 9), .bin .lss (.t 8) (.t 7), none⟩] (fullB 1) false)
 (.seq
 (.cond (.t 9)
  .skip
  (.exit 0))
 (.seq
  (.block 1
  (.seq
  (.reg [⟨(some 10), .mv (.t 8), none⟩,
⟨(some 5), .mv (.t 10), none⟩] (fullB 2) false)
  (.seq
  (.reg [⟨(some 11), .mv (.t 1), none⟩,
⟨(some 12), .mv (.t 0), none⟩,
⟨(some 13), .mv (.t 5), none⟩,
⟨(some 14), .idxS 4 (.t 12) (.t 13), none⟩,
⟨(some 15), .load (some 4) (.t 14), none⟩,
⟨(some 16), .call (.t 11) [(.t 15)], none⟩] (fullB 6) false)
  (.cond (.t 16)
   (.seq
   (.reg [⟨(some 17), .mv (.t 5), none⟩,
⟨(some 4), .mv (.t 17), none⟩] (fullB 2) false)
   .ret)
   .skip))))
  (.reg [⟨(some 18), .bin .add (.t 8) (.k (.d (.int .i64 1))), none⟩,
⟨(some 8), .mv (.t 18), none⟩] (fullB 2) false)))))))
(.seq
(.reg [⟨(some 4), .mv (.k (.d (.int .i64 (-1)))), none⟩] (fullB 1) false)
.ret)))
def rv : List RV := [.tmp 4]
theorem c : cK Try.prog Try.f114.ntmps (Try.f114.body.getD .ret) = some s := by kernel_rfl
theorem b : Try.f114.body = some (Try.f114.body.getD .ret) := by kernel_rfl
theorem r : cRV Try.prog Try.f114.results.toList = some rv := by kernel_rfl
theorem ca : Callable Try.prog 114 = true := by kernel_rfl
theorem enter {args : List SV} {F : Hp} {k nk : Nat} {Q : SV → Hp → Prop} (hargs : SV.oks (fun n => decide (n < k)) args = true) (hF : F.ok (fun n => decide (n < k)) = true) (hN : args.length ≤ 19)
    (h : SW Try.prog 19 k s ⟨argE 0 args, F, k⟩ fun e st' => match e with | .normal => Fin k nk rv Q st' | .ret => Fin k nk rv Q st' | _ => False) : SB Try.prog 114 args F k nk Q :=
  SB.of_body Try.func114 b c r ca hargs hF hN h
end slices_IndexFunc_Lapi_Claim_api_Claim
end Go.Proofs.Ytacdkgkpoelhdaa
