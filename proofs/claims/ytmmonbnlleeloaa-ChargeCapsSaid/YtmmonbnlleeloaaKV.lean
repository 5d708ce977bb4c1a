/-
  The code of the functions in the small form, by program (gen.py); each is checked against the translation by the kernel.
-/
import Derived.Test.YtmmonbnlleeloaaChecked
import Derived.Test.YtmmonbnlleeloaaK4
set_option linter.unusedVariables false
set_option linter.unusedSimpArgs false
set_option linter.unusedSectionVars false
namespace Go.Proofs.Ytmmonbnlleeloaa
open Go.Sl Go.Proofs
theorem mixed : Try.prog.follows .mixedOrders = true := by kernel_rfl
abbrev T_bool : Nat := 4
abbrev T_L_api_Op : Nat := 22
abbrev T_uint32 : Nat := 31
abbrev T_api_Dot : Nat := 33
abbrev T_api_Vector : Nat := 35
abbrev T_api_Op : Nat := 39
abbrev T_L_api_Spend : Nat := 78
abbrev T_api_Spend : Nat := 80
abbrev T_A2_api_Spend : Nat := 81
namespace law16_TreeNarrows
def s : SCo := (.seq
(.reg [⟨(some 2), .mv (.k (.d (.bool false))), none⟩] (fullB 1) false)
(.seq
(.seq
(.reg [⟨(some 16), .mv (.t 0), none⟩,
⟨(some 17), .call (.k (.fn (.func 20) [] [])) [(.t 16)], none⟩] (fullB 2) false)
(.cond (.t 17)
 (.seq
 (.reg [⟨(some 18), .call (.k (.fn (.func 21) [] [])) [], none⟩,
⟨(some 2), .mv (.t 18), none⟩] (fullB 2) false)
 .ret)
 .skip))
(.seq
(.reg [⟨(some 19), .mv (.t 0), none⟩,
⟨(some 20), .call (.k (.fn (.func 22) [] [])) [(.t 19)], none⟩,
⟨(some 3), .mv (.t 20), none⟩] (fullB 3) false)
(.seq
 (.seq
 (.reg [⟨(some 21), .mv (.t 3), none⟩,
⟨(some 22), .eqnil false 0 (.t 21), none⟩] (fullB 2) false)
 (.cond (.t 22)
 (.seq
 (.reg [⟨(some 2), .mv (.k (.d (.bool false))), none⟩] (fullB 1) false)
 .ret)
 .skip))
 (.seq
 (.seq
 (.reg [⟨(some 4), .mv (.k (.d (.int .i64 0))), none⟩] (fullB 1) false)
 (.block 0
 (.loop
  (.seq
  (.seq
  (.reg [⟨(some 23), .mv (.t 4), none⟩,
⟨(some 24), .mv (.t 0), none⟩,
⟨(some 25), .len (.t 24), none⟩,
⟨(some 26), .bin .lss (.t 23) (.t 25), none⟩] (fullB 4) false)
  (.cond (.t 26)
  .skip
  (.exit 0)))
  (.seq
  (.block 1
  (.seq
   (.reg [⟨(some 30), .mv (.t 3), none⟩,
⟨(some 31), .mv (.t 0), none⟩,
⟨(some 32), .mv (.t 4), none⟩,
⟨(some 33), .idxS 29 (.t 31) (.t 32), none⟩,
⟨(some 34), .fld 0 (.t 33), none⟩,
⟨(some 35), .load (some 2) (.t 34), none⟩,
⟨(some 36), .call (.k (.fn (.func 23) [] [])) [(.t 30), (.t 35)], none⟩,
⟨(some 29), .mv (.t 36), none⟩,
⟨(some 37), .ext 0 (.t 29), none⟩,
⟨(some 38), .ext 1 (.t 29), none⟩,
⟨(some 5), .mv (.t 37), none⟩,
⟨(some 6), .mv (.t 38), none⟩] (fullB 12) false)
   (.seq
   (.seq
   (.reg [⟨(some 39), .mv (.t 6), none⟩,
⟨(some 40), .bin .neq (.t 39) (.k (.d (.int .i64 0))), none⟩] (fullB 2) false)
   (.cond (.t 40)
   (.exit 1)
   .skip))
   (.seq
   (.reg [⟨(some 42), .mv (.t 3), none⟩,
⟨(some 43), .mv (.t 0), none⟩,
⟨(some 44), .mv (.t 4), none⟩,
⟨(some 45), .idxS 29 (.t 43) (.t 44), none⟩,
⟨(some 46), .fld 0 (.t 45), none⟩,
⟨(some 47), .load (some 2) (.t 46), none⟩,
⟨(some 48), .call (.k (.fn (.func 24) [] [])) [(.t 42), (.t 47)], none⟩,
⟨(some 41), .mv (.t 48), none⟩,
⟨(some 49), .ext 0 (.t 41), none⟩,
⟨(some 50), .ext 1 (.t 41), none⟩,
⟨(some 7), .alloc 41 [(.d (.int .u8 0)), (.d (.int .u32 0)), (.d (.int .u8 0)), (.d (.int .u32 0)), (.d (.int .u8 0)), (.d (.int .u32 0)), (.d (.int .u32 0)), (.d (.int .u8 0)), (.d (.int .u8 0)), (.d (.int .u64 0)), (.d (.int .i64 0))], none⟩,
⟨none, .store 11 (.t 7) (.t 49), none⟩,
⟨(some 8), .mv (.t 50), none⟩] (fullB 13) false)
   (.seq
   (.seq
    (.reg [⟨(some 51), .mv (.t 5), none⟩,
⟨(some 52), .len (.t 51), none⟩,
⟨(some 53), .fld 10 (.t 7), none⟩,
⟨(some 54), .load none (.t 53), none⟩,
⟨(some 55), .bin .add (.t 54) (.k (.d (.int .i64 1))), none⟩,
⟨(some 56), .bin .neq (.t 52) (.t 55), none⟩,
⟨(some 57), .mv (.t 56), none⟩,
⟨(some 58), .mv (.t 5), some (57, false)⟩,
⟨(some 59), .len (.t 58), some (57, false)⟩,
⟨(some 60), .bin .gtr (.t 59) (.k (.d (.int .i64 9))), some (57, false)⟩,
⟨(some 61), .pick (.t 57) (.k (.d (.bool true))) (.t 60), none⟩] (fullB 11) false)
    (.cond (.t 61)
    (.seq
    (.reg [⟨(some 2), .mv (.k (.d (.bool false))), none⟩] (fullB 1) false)
    .ret)
    .skip))
   (.seq
    (.seq
    (.reg [⟨(some 9), .mv (.k (.d (.int .i64 1))), none⟩] (fullB 1) false)
    (.block 2
    (.loop
    (.seq
     (.seq
     (.reg [⟨(some 62), .mv (.t 9), none⟩,
⟨(some 63), .mv (.t 5), none⟩,
⟨(some 64), .len (.t 63), none⟩,
⟨(some 65), .bin .lss (.t 62) (.t 64), none⟩] (fullB 4) false)
     (.cond (.t 65)
     .skip
     (.exit 2)))
     (.seq
     (.block 3
     (.seq
     (.reg [⟨(some 69), .mv (.t 3), none⟩,
⟨(some 70), .mv (.t 5), none⟩,
⟨(some 71), .mv (.t 9), none⟩,
⟨(some 72), .idxS 2 (.t 70) (.t 71), none⟩,
⟨(some 73), .load (some 2) (.t 72), none⟩,
⟨(some 74), .call (.k (.fn (.func 24) [] [])) [(.t 69), (.t 73)], none⟩,
⟨(some 68), .mv (.t 74), none⟩,
⟨(some 75), .ext 0 (.t 68), none⟩,
⟨(some 76), .ext 1 (.t 68), none⟩,
⟨(some 10), .alloc 41 [(.d (.int .u8 0)), (.d (.int .u32 0)), (.d (.int .u8 0)), (.d (.int .u32 0)), (.d (.int .u8 0)), (.d (.int .u32 0)), (.d (.int .u32 0)), (.d (.int .u8 0)), (.d (.int .u8 0)), (.d (.int .u64 0)), (.d (.int .i64 0))], none⟩,
⟨none, .store 11 (.t 10) (.t 75), none⟩,
⟨(some 11), .mv (.t 76), none⟩] (fullB 12) false)
     (.seq
      (.reg [⟨(some 78), .mv (.t 0), none⟩,
⟨(some 79), .fld 0 (.t 7), none⟩,
⟨(some 80), .load (some 2) (.t 79), none⟩,
⟨(some 81), .call (.k (.fn (.func 25) [] [])) [(.t 78), (.t 80)], none⟩,
⟨(some 77), .mv (.t 81), none⟩,
⟨(some 82), .ext 0 (.t 77), none⟩,
⟨(some 83), .ext 1 (.t 77), none⟩,
⟨(some 12), .alloc 39 [(.d (.int .u8 0)), (.d (.int .u32 0)), (.d (.int .u32 0)), (.d (.int .u32 0)), (.d (.int .u32 0)), (.d (.int .u32 0)), (.d (.int .u32 0)), (.d (.int .u32 0)), (.d (.int .u32 0)), (.d (.int .u32 0)), (.d (.int .u64 0)), (.d (.int .u32 0)), (.d (.int .u8 0)), (.d (.int .u32 0)), (.d (.int .u8 0)), (.d (.int .u8 0)), (.d (.int .u32 0)), (.d (.int .u32 0)), (.d (.int .u8 0)), (.d (.int .u8 0)), (.d (.int .u64 0)), (.d (.int .u8 0)), (.d (.int .u32 0)), (.d (.int .u8 0)), (.d (.int .u32 0)), (.d (.int .u32 0)), (.d (.int .u32 0)), (.d (.int .u32 0)), (.d .nils)], none⟩,
⟨none, .store 29 (.t 12) (.t 82), none⟩,
⟨(some 13), .mv (.t 83), none⟩] (fullB 10) false)
      (.seq
      (.reg [⟨(some 85), .mv (.t 0), none⟩,
⟨(some 86), .fld 0 (.t 10), none⟩,
⟨(some 87), .load (some 2) (.t 86), none⟩,
⟨(some 88), .call (.k (.fn (.func 25) [] [])) [(.t 85), (.t 87)], none⟩,
⟨(some 84), .mv (.t 88), none⟩,
⟨(some 89), .ext 0 (.t 84), none⟩,
⟨(some 90), .ext 1 (.t 84), none⟩,
⟨(some 14), .alloc 39 [(.d (.int .u8 0)), (.d (.int .u32 0)), (.d (.int .u32 0)), (.d (.int .u32 0)), (.d (.int .u32 0)), (.d (.int .u32 0)), (.d (.int .u32 0)), (.d (.int .u32 0)), (.d (.int .u32 0)), (.d (.int .u32 0)), (.d (.int .u64 0)), (.d (.int .u32 0)), (.d (.int .u8 0)), (.d (.int .u32 0)), (.d (.int .u8 0)), (.d (.int .u8 0)), (.d (.int .u32 0)), (.d (.int .u32 0)), (.d (.int .u8 0)), (.d (.int .u8 0)), (.d (.int .u64 0)), (.d (.int .u8 0)), (.d (.int .u32 0)), (.d (.int .u8 0)), (.d (.int .u32 0)), (.d (.int .u32 0)), (.d (.int .u32 0)), (.d (.int .u32 0)), (.d .nils)], none⟩,
⟨none, .store 29 (.t 14) (.t 89), none⟩,
⟨(some 15), .mv (.t 90), none⟩] (fullB 10) false)
      (.seq
      (.seq
      (.reg (⟨(some 91), .mv (.t 11), none⟩ ::
⟨(some 92), .bin .neq (.t 91) (.k (.d (.int .i64 0))), none⟩ ::
⟨(some 93), .mv (.t 92), none⟩ ::
⟨(some 94), .fld 4 (.t 7), some (93, false)⟩ ::
⟨(some 95), .load (some 2) (.t 94), some (93, false)⟩ ::
⟨(some 96), .fld 0 (.t 10), some (93, false)⟩ ::
⟨(some 97), .load (some 2) (.t 96), some (93, false)⟩ ::
⟨(some 98), .eqv true [true, true] (.t 95) (.t 97), some (93, false)⟩ ::
⟨(some 99), .pick (.t 93) (.k (.d (.bool true))) (.t 98), none⟩ ::
⟨(some 100), .mv (.t 99), none⟩ ::
⟨(some 101), .fld 7 (.t 7), some (100, false)⟩ ::
⟨(some 102), .load none (.t 101), some (100, false)⟩ ::
⟨(some 103), .fld 7 (.t 10), some (100, false)⟩ ::
⟨(some 104), .load none (.t 103), some (100, false)⟩ ::
⟨(some 105), .bin .or (.t 102) (.t 104), some (100, false)⟩ ::
⟨(some 106), .fld 7 (.t 10), some (100, false)⟩ ::
⟨(some 107), .load none (.t 106), some (100, false)⟩ ::
⟨(some 108), .bin .neq (.t 105) (.t 107), some (100, false)⟩ ::
⟨(some 109), .pick (.t 100) (.k (.d (.bool true))) (.t 108), none⟩ ::
⟨(some 110), .mv (.t 109), none⟩ ::
⟨(some 111), .fld 9 (.t 7), some (110, false)⟩ ::
⟨(some 112), .load none (.t 111), some (110, false)⟩ ::
⟨(some 113), .fld 9 (.t 10), some (110, false)⟩ ::
⟨(some 114), .load none (.t 113), some (110, false)⟩ ::
⟨(some 115), .bin .gtr (.t 112) (.t 114), some (110, false)⟩ ::
⟨(some 116), .pick (.t 110) (.k (.d (.bool true))) (.t 115), none⟩ ::
⟨(some 117), .mv (.t 116), none⟩ ::
⟨(some 118), .fld 8 (.t 7), some (117, false)⟩ ::
⟨(some 119), .load none (.t 118), some (117, false)⟩ ::
⟨(some 120), .fld 8 (.t 10), some (117, false)⟩ ::
⟨(some 121), .load none (.t 120), some (117, false)⟩ ::
⟨(some 122), .bin .geq (.t 119) (.t 121), some (117, false)⟩ ::
⟨(some 123), .pick (.t 117) (.k (.d (.bool true))) (.t 122), none⟩ ::
⟨(some 124), .mv (.t 123), none⟩ ::
⟨(some 125), .fld 10 (.t 10), some (124, false)⟩ ::
⟨(some 126), .load none (.t 125), some (124, false)⟩ ::
⟨(some 127), .fld 10 (.t 7), some (124, false)⟩ ::
⟨(some 128), .load none (.t 127), some (124, false)⟩ ::
⟨(some 129), .bin .sub (.t 128) (.k (.d (.int .i64 1))), some (124, false)⟩ ::
⟨(some 130), .bin .neq (.t 126) (.t 129), some (124, false)⟩ ::
⟨(some 131), .pick (.t 124) (.k (.d (.bool true))) (.t 130), none⟩ ::
⟨(some 132), .mv (.t 131), none⟩ ::
⟨(some 133), .fld 2 (.t 10), some (132, false)⟩ ::
⟨(some 134), .load (some 2) (.t 133), some (132, false)⟩ ::
⟨(some 135), .fld 2 (.t 7), some (132, false)⟩ ::
⟨(some 136), .load (some 2) (.t 135), some (132, false)⟩ ::
⟨(some 137), .eqv true [true, true] (.t 134) (.t 136), some (132, false)⟩ ::
⟨(some 138), .pick (.t 132) (.k (.d (.bool true))) (.t 137), none⟩ ::
⟨(some 139), .mv (.t 138), none⟩ ::
⟨(some 140), .fld 7 (.t 10), some (139, false)⟩ ::
⟨(some 141), .load none (.t 140), some (139, false)⟩ ::
⟨(some 142), .bin .and (.t 141) (.k (.d (.int .u8 1))), some (139, false)⟩ ::
⟨(some 143), .bin .eql (.t 142) (.k (.d (.int .u8 0))), some (139, false)⟩ ::
⟨(some 144), .pick (.t 139) (.k (.d (.bool true))) (.t 143), none⟩ ::
⟨(some 145), .mv (.t 144), none⟩ ::
⟨(some 146), .load (some 29) (.t 14), some (145, false)⟩ ::
⟨(some 147), .load (some 29) (.t 12), some (145, false)⟩ ::
⟨(some 148), .call (.k (.fn (.func 26) [] [])) [(.t 146), (.t 147)], some (145, false)⟩ ::
⟨(some 149), .not (.t 148), some (145, false)⟩ ::
⟨(some 150), .pick (.t 145) (.k (.d (.bool true))) (.t 149), none⟩ ::
⟨(some 151), .mv (.t 150), none⟩ ::
⟨(some 152), .fld 11 (.t 12), some (151, false)⟩ ::
⟨(some 153), .load none (.t 152), some (151, false)⟩ ::
⟨(some 154), .fld 6 (.t 10), some (151, false)⟩ ::
⟨(some 155), .load none (.t 154), some (151, false)⟩ ::
⟨(some 156), .bin .neq (.t 153) (.t 155), some (151, false)⟩ ::
⟨(some 157), .pick (.t 151) (.k (.d (.bool true))) (.t 156), none⟩ :: []) (fullB 67) false)
      (.cond (.t 157)
       (.seq
       (.reg [⟨(some 2), .mv (.k (.d (.bool false))), none⟩] (fullB 1) false)
       .ret)
       .skip))
      (.seq
      (.seq
       (.reg (⟨(some 158), .mv (.t 3), none⟩ ::
⟨(some 159), .fld 0 (.t 10), none⟩ ::
⟨(some 160), .load (some 2) (.t 159), none⟩ ::
⟨(some 161), .mv (.t 0), none⟩ ::
⟨(some 162), .mv (.t 4), none⟩ ::
⟨(some 163), .idxS 29 (.t 161) (.t 162), none⟩ ::
⟨(some 164), .fld 0 (.t 163), none⟩ ::
⟨(some 165), .load (some 2) (.t 164), none⟩ ::
⟨(some 166), .call (.k (.fn (.func 27) [] [])) [(.t 158), (.t 160), (.t 165)], none⟩ ::
⟨(some 167), .not (.t 166), none⟩ ::
⟨(some 168), .mv (.t 167), none⟩ ::
⟨(some 169), .mv (.t 3), some (168, false)⟩ ::
⟨(some 170), .mv (.t 0), some (168, false)⟩ ::
⟨(some 171), .mv (.t 4), some (168, false)⟩ ::
⟨(some 172), .idxS 29 (.t 170) (.t 171), some (168, false)⟩ ::
⟨(some 173), .fld 0 (.t 172), some (168, false)⟩ ::
⟨(some 174), .load (some 2) (.t 173), some (168, false)⟩ ::
⟨(some 175), .fld 0 (.t 10), some (168, false)⟩ ::
⟨(some 176), .load (some 2) (.t 175), some (168, false)⟩ ::
⟨(some 177), .call (.k (.fn (.func 27) [] [])) [(.t 169), (.t 174), (.t 176)], some (168, false)⟩ ::
⟨(some 178), .pick (.t 168) (.k (.d (.bool true))) (.t 177), none⟩ :: []) (0 ::
0 ::
2 ::
0 ::
0 ::
24 ::
56 ::
120 ::
255 ::
511 ::
1023 ::
2047 ::
2047 ::
2047 ::
14335 ::
30719 ::
63487 ::
2047 ::
133119 ::
524287 ::
1048575 :: []) true)
       (.cond (.t 178)
       (.seq
       (.reg [⟨(some 2), .mv (.k (.d (.bool false))), none⟩] (fullB 1) false)
       .ret)
       .skip))
      (.reg [⟨(some 179), .load (some 11) (.t 10), none⟩,
⟨none, .store 11 (.t 7) (.t 179), none⟩] (fullB 2) false)))))))
     (.reg [⟨(some 66), .mv (.t 9), none⟩,
⟨(some 67), .bin .add (.t 66) (.k (.d (.int .i64 1))), none⟩,
⟨(some 9), .mv (.t 67), none⟩] (fullB 3) false))))))
    (.seq
    (.reg [⟨(some 180), .fld 10 (.t 7), none⟩,
⟨(some 181), .load none (.t 180), none⟩,
⟨(some 182), .bin .neq (.t 181) (.k (.d (.int .i64 0))), none⟩,
⟨(some 183), .mv (.t 182), none⟩,
⟨(some 184), .fld 0 (.t 7), some (183, false)⟩,
⟨(some 185), .load (some 2) (.t 184), some (183, false)⟩,
⟨(some 186), .fld 2 (.t 7), some (183, false)⟩,
⟨(some 187), .load (some 2) (.t 186), some (183, false)⟩,
⟨(some 188), .eqv true [true, true] (.t 185) (.t 187), some (183, false)⟩,
⟨(some 189), .pick (.t 183) (.k (.d (.bool true))) (.t 188), none⟩] (fullB 10) false)
    (.cond (.t 189)
    (.seq
    (.reg [⟨(some 2), .mv (.k (.d (.bool false))), none⟩] (fullB 1) false)
    .ret)
    .skip))))))))
  (.reg [⟨(some 27), .mv (.t 4), none⟩,
⟨(some 28), .bin .add (.t 27) (.k (.d (.int .i64 1))), none⟩,
⟨(some 4), .mv (.t 28), none⟩] (fullB 3) false))))))
 (.seq
 (.reg [⟨(some 190), .call (.k (.fn (.func 21) [] [])) [], none⟩,
⟨(some 2), .mv (.t 190), none⟩] (fullB 2) false)
 .ret))))))
def rv : List RV := [.tmp 2]
theorem c : cK Try.prog Try.f3.ntmps (Try.f3.body.getD .ret) = some s := by kernel_rfl
theorem b : Try.f3.body = some (Try.f3.body.getD .ret) := by kernel_rfl
theorem r : cRV Try.prog Try.f3.results.toList = some rv := by kernel_rfl
theorem ca : Callable Try.prog 3 = true := by kernel_rfl
theorem enter {args : List SV} {F : Hp} {k nk : Nat} {Q : SV → Hp → Prop} (hargs : SV.oks (fun n => decide (n < k)) args = true) (hF : F.ok (fun n => decide (n < k)) = true) (hN : args.length ≤ 191)
    (h : SW Try.prog 191 k s ⟨argE 0 args, F, k⟩ fun e st' => match e with | .normal => Fin k nk rv Q st' | .ret => Fin k nk rv Q st' | _ => False) : SB Try.prog 3 args F k nk Q :=
  SB.of_body Try.func3 b c r ca hargs hF hN h
end law16_TreeNarrows
namespace law16_TreeTells
end law16_TreeTells
namespace law16_TreeNone
end law16_TreeNone
namespace law16_TreeHeld
end law16_TreeHeld
namespace ref10_Great
abbrev f : Nat := 20
def s : SCo := (.seq
(.reg [⟨(some 2), .mv (.k (.d (.bool false))), none⟩] (fullB 1) false)
(.seq
(.reg [⟨(some 3), .mv (.k (.d (.int .i64 0))), none⟩] (fullB 1) false)
(.seq
(.seq
 (.reg [⟨(some 4), .mv (.k (.d (.int .i64 0))), none⟩] (fullB 1) false)
 (.block 0
 (.loop
 (.seq
 (.seq
  (.reg [⟨(some 5), .mv (.t 4), none⟩,
⟨(some 6), .mv (.t 0), none⟩,
⟨(some 7), .len (.t 6), none⟩,
⟨(some 8), .bin .lss (.t 5) (.t 7), none⟩,
⟨(some 9), .mv (.t 8), none⟩,
⟨(some 10), .mv (.t 4), some (9, true)⟩,
⟨(some 11), .bin .lss (.t 10) (.k (.d (.int .i64 100))), some (9, true)⟩,
⟨(some 12), .pick (.t 9) (.t 11) (.k (.d (.bool false))), none⟩] (fullB 8) false)
  (.cond (.t 12)
  .skip
  (.exit 0)))
 (.seq
  (.block 1
  (.reg [⟨(some 15), .mv (.t 3), none⟩,
⟨(some 16), .mv (.t 0), none⟩,
⟨(some 17), .mv (.t 4), none⟩,
⟨(some 18), .idxS 29 (.t 16) (.t 17), none⟩,
⟨(some 19), .fld 28 (.t 18), none⟩,
⟨(some 20), .load none (.t 19), none⟩,
⟨(some 21), .len (.t 20), none⟩,
⟨(some 22), .bin .add (.t 15) (.t 21), none⟩,
⟨(some 3), .mv (.t 22), none⟩] (fullB 9) false))
  (.reg [⟨(some 13), .mv (.t 4), none⟩,
⟨(some 14), .bin .add (.t 13) (.k (.d (.int .i64 1))), none⟩,
⟨(some 4), .mv (.t 14), none⟩] (fullB 3) false))))))
(.seq
 (.reg [⟨(some 23), .mv (.t 0), none⟩,
⟨(some 24), .len (.t 23), none⟩,
⟨(some 25), .bin .gtr (.t 24) (.k (.d (.int .i64 80))), none⟩,
⟨(some 26), .mv (.t 25), none⟩,
⟨(some 27), .mv (.t 3), some (26, false)⟩,
⟨(some 28), .bin .gtr (.t 27) (.k (.d (.int .i64 300))), some (26, false)⟩,
⟨(some 29), .pick (.t 26) (.k (.d (.bool true))) (.t 28), none⟩,
⟨(some 2), .mv (.t 29), none⟩] (fullB 8) false)
 .ret))))
def rv : List RV := [.tmp 2]
theorem c : cK Try.prog Try.f20.ntmps (Try.f20.body.getD .ret) = some s := by kernel_rfl
theorem b : Try.f20.body = some (Try.f20.body.getD .ret) := by kernel_rfl
theorem r : cRV Try.prog Try.f20.results.toList = some rv := by kernel_rfl
theorem ca : Callable Try.prog 20 = true := by kernel_rfl
theorem enter {args : List SV} {F : Hp} {k nk : Nat} {Q : SV → Hp → Prop} (hargs : SV.oks (fun n => decide (n < k)) args = true) (hF : F.ok (fun n => decide (n < k)) = true) (hN : args.length ≤ 30)
    (h : SW Try.prog 30 k s ⟨argE 0 args, F, k⟩ fun e st' => match e with | .normal => Fin k nk rv Q st' | .ret => Fin k nk rv Q st' | _ => False) : SB Try.prog 20 args F k nk Q :=
  SB.of_body Try.func20 b c r ca hargs hF hN h
end ref10_Great
namespace law16_head
end law16_head
namespace tree_New
abbrev f : Nat := 22
def s : SCo := (.seq
(.reg [⟨(some 2), .mv (.k (.d .nilp)), none⟩] (fullB 1) false)
(.seq
(.reg [⟨(some 8), .mkm, none⟩,
⟨(some 9), .mkm, none⟩,
⟨(some 10), .bld [(.d .nilm), (.d .nilm)] [(0, 1, (.t 8)), (1, 1, (.t 9))], none⟩,
⟨(some 11), .box 74 (.t 10), none⟩,
⟨(some 3), .mv (.t 11), none⟩] (fullB 5) false)
(.seq
(.reg [⟨(some 12), .mkm, none⟩,
⟨(some 4), .alloc 120 [(.d .nilm)], none⟩,
⟨none, .store 1 (.t 4) (.t 12), none⟩] (fullB 3) false)
(.seq
 (.reg [⟨(some 13), .mv (.t 0), none⟩,
⟨(some 14), .call (.k (.fn (.func 74) [] [])) [(.t 13)], none⟩,
⟨(some 15), .mkf (.func 75) [] [(.t 4)], none⟩,
⟨(some 16), .call (.k (.fn (.func 73) [] [])) [(.t 14), (.t 15)], none⟩,
⟨(some 5), .mv (.t 16), none⟩] (fullB 5) false)
 (.seq
 (.seq
 (.reg [⟨(some 6), .mv (.k (.d (.bool true))), none⟩] (fullB 1) false)
 (.block 0
 (.loop
  (.seq
  (.seq
  (.reg [⟨(some 17), .mv (.t 6), none⟩] (fullB 1) false)
  (.cond (.t 17)
  .skip
  (.exit 0)))
  (.block 1
  (.seq
  (.reg [⟨(some 18), .mv (.t 5), none⟩,
⟨(some 19), .len (.t 18), none⟩,
⟨(some 7), .mv (.t 19), none⟩] (fullB 3) false)
  (.seq
   (.reg [⟨(some 20), .mv (.t 5), none⟩,
⟨(some 21), .mv (.t 3), none⟩,
⟨(some 22), .mkf (.func 76) [(.t 21)] [], none⟩,
⟨(some 23), .call (.k (.fn (.func 73) [] [])) [(.t 20), (.t 22)], none⟩,
⟨(some 5), .mv (.t 23), none⟩] (fullB 5) false)
   (.reg [⟨(some 24), .mv (.t 5), none⟩,
⟨(some 25), .len (.t 24), none⟩,
⟨(some 26), .mv (.t 7), none⟩,
⟨(some 27), .bin .lss (.t 25) (.t 26), none⟩,
⟨(some 6), .mv (.t 27), none⟩] (fullB 5) false))))))))
 (.seq
 (.reg [⟨(some 28), .mv (.t 3), none⟩,
⟨(some 2), .mv (.t 28), none⟩] (fullB 2) false)
 .ret))))))
def rv : List RV := [.tmp 2]
theorem c : cK Try.prog Try.f22.ntmps (Try.f22.body.getD .ret) = some s := by kernel_rfl
theorem b : Try.f22.body = some (Try.f22.body.getD .ret) := by kernel_rfl
theorem r : cRV Try.prog Try.f22.results.toList = some rv := by kernel_rfl
theorem ca : Callable Try.prog 22 = true := by kernel_rfl
theorem enter {args : List SV} {F : Hp} {k nk : Nat} {Q : SV → Hp → Prop} (hargs : SV.oks (fun n => decide (n < k)) args = true) (hF : F.ok (fun n => decide (n < k)) = true) (hN : args.length ≤ 29)
    (h : SW Try.prog 29 k s ⟨argE 0 args, F, k⟩ fun e st' => match e with | .normal => Fin k nk rv Q st' | .ret => Fin k nk rv Q st' | _ => False) : SB Try.prog 22 args F k nk Q :=
  SB.of_body Try.func22 b c r ca hargs hF hN h
end tree_New
namespace tree_Tree_Chain
abbrev f : Nat := 23
def s : SCo := (.seq
(.reg [⟨(some 3), .box 33 (.t 1), none⟩,
⟨(some 4), .mv (.k (.d .nils)), none⟩,
⟨(some 5), .mv (.k (.d (.int .i64 0))), none⟩] (fullB 3) false)
(.seq
(.seq
(.reg [⟨(some 11), .mv (.t 0), none⟩,
⟨(some 12), .load (some 2) (.t 3), none⟩,
⟨(some 13), .call (.k (.fn (.func 24) [] [])) [(.t 11), (.t 12)], none⟩,
⟨(some 10), .mv (.t 13), none⟩,
⟨(some 14), .ext 0 (.t 10), none⟩,
⟨(some 15), .ext 1 (.t 10), none⟩,
⟨(some 6), .alloc 41 [(.d (.int .u8 0)), (.d (.int .u32 0)), (.d (.int .u8 0)), (.d (.int .u32 0)), (.d (.int .u8 0)), (.d (.int .u32 0)), (.d (.int .u32 0)), (.d (.int .u8 0)), (.d (.int .u8 0)), (.d (.int .u64 0)), (.d (.int .i64 0))], none⟩,
⟨none, .store 11 (.t 6) (.t 14), none⟩,
⟨(some 7), .mv (.t 15), none⟩] (fullB 9) false)
(.seq
 (.reg [⟨(some 16), .mv (.t 7), none⟩,
⟨(some 17), .bin .neq (.t 16) (.k (.d (.int .i64 0))), none⟩] (fullB 2) false)
 (.cond (.t 17)
 (.seq
 (.reg [⟨(some 18), .mv (.t 7), none⟩,
⟨(some 4), .mv (.k (.d .nils)), none⟩,
⟨(some 5), .mv (.t 18), none⟩] (fullB 3) false)
 .ret)
 .skip)))
(.seq
(.reg [⟨(some 8), .alloc 27 [(.d .nils)], none⟩] (fullB 1) false)
(.seq
 (.seq
 (.reg [⟨(some 19), .mv (.t 0), none⟩,
⟨(some 20), .load (some 2) (.t 3), none⟩,
⟨(some 21), .call (.k (.fn (.func 77) [] [])) [(.t 19), (.t 20)], none⟩] (fullB 3) false)
 (.block 0
 (.rfun (.t 21) [22]
 (.reg [⟨(some 9), .alloc 41 [(.d (.int .u8 0)), (.d (.int .u32 0)), (.d (.int .u8 0)), (.d (.int .u32 0)), (.d (.int .u8 0)), (.d (.int .u32 0)), (.d (.int .u32 0)), (.d (.int .u8 0)), (.d (.int .u8 0)), (.d (.int .u64 0)), (.d (.int .i64 0))], none⟩,
⟨none, .store 11 (.t 9) (.t 22), none⟩] (fullB 2) false)
 (.block 1
  (.reg [⟨(some 23), .load none (.t 8), none⟩,
⟨(some 24), .fld 0 (.t 9), none⟩,
⟨(some 25), .load (some 2) (.t 24), none⟩,
⟨(some 26), .bsl 33 2 1 [(.d (.int .u8 0)), (.d (.int .u32 0))] [(0, 2, (.t 25))], none⟩,
⟨(some 27), .app 33 2 8 (.t 23) (.t 26), none⟩,
⟨none, .store 1 (.t 8) (.t 27), none⟩] (fullB 6) false)))))
 (.seq
 (.reg [⟨(some 28), .load none (.t 8), none⟩,
⟨(some 4), .mv (.t 28), none⟩,
⟨(some 5), .mv (.k (.d (.int .i64 0))), none⟩] (fullB 3) false)
 .ret)))))
def rv : List RV := [.tmp 4, .tmp 5]
theorem c : cK Try.prog Try.f23.ntmps (Try.f23.body.getD .ret) = some s := by kernel_rfl
theorem b : Try.f23.body = some (Try.f23.body.getD .ret) := by kernel_rfl
theorem r : cRV Try.prog Try.f23.results.toList = some rv := by kernel_rfl
theorem ca : Callable Try.prog 23 = true := by kernel_rfl
theorem enter {args : List SV} {F : Hp} {k nk : Nat} {Q : SV → Hp → Prop} (hargs : SV.oks (fun n => decide (n < k)) args = true) (hF : F.ok (fun n => decide (n < k)) = true) (hN : args.length ≤ 29)
    (h : SW Try.prog 29 k s ⟨argE 0 args, F, k⟩ fun e st' => match e with | .normal => Fin k nk rv Q st' | .ret => Fin k nk rv Q st' | _ => False) : SB Try.prog 23 args F k nk Q :=
  SB.of_body Try.func23 b c r ca hargs hF hN h
end tree_Tree_Chain
namespace tree_Tree_Get
abbrev f : Nat := 24
def s : SCo := (.seq
(.reg [⟨(some 3), .box 33 (.t 1), none⟩,
⟨(some 4), .alloc 41 [(.d (.int .u8 0)), (.d (.int .u32 0)), (.d (.int .u8 0)), (.d (.int .u32 0)), (.d (.int .u8 0)), (.d (.int .u32 0)), (.d (.int .u32 0)), (.d (.int .u8 0)), (.d (.int .u8 0)), (.d (.int .u64 0)), (.d (.int .i64 0))], none⟩,
⟨(some 5), .mv (.k (.d (.int .i64 0))), none⟩] (fullB 3) false)
(.seq
(.seq
(.reg [⟨(some 8), .mv (.t 0), none⟩,
⟨(some 9), .call (.k (.fn (.func 78) [] [])) [(.t 8)], none⟩] (fullB 2) false)
(.cond (.t 9)
 (.seq
 (.reg [⟨(some 10), .bld [(.d (.int .u8 0)), (.d (.int .u32 0)), (.d (.int .u8 0)), (.d (.int .u32 0)), (.d (.int .u8 0)), (.d (.int .u32 0)), (.d (.int .u32 0)), (.d (.int .u8 0)), (.d (.int .u8 0)), (.d (.int .u64 0)), (.d (.int .i64 0))] [], none⟩,
⟨none, .store 11 (.t 4) (.t 10), none⟩,
⟨(some 5), .mv (.k (.d (.int .i64 1))), none⟩] (fullB 3) false)
 .ret)
 .skip))
(.seq
(.reg [⟨(some 12), .mv (.t 0), none⟩,
⟨(some 13), .nilc (.t 12), none⟩,
⟨(some 14), .fld 0 (.t 13), none⟩,
⟨(some 15), .load none (.t 14), none⟩,
⟨(some 16), .load (some 2) (.t 3), none⟩,
⟨(some 17), .look [true, true] true (.agg [(.d (.int .u8 0)), (.d (.int .u32 0)), (.d (.int .u8 0)), (.d (.int .u32 0)), (.d (.int .u8 0)), (.d (.int .u32 0)), (.d (.int .u32 0)), (.d (.int .u8 0)), (.d (.int .u8 0)), (.d (.int .u64 0)), (.d (.int .i64 0))]) (.t 15) (.t 16) true, none⟩,
⟨(some 11), .mv (.t 17), none⟩,
⟨(some 18), .ext 0 (.t 11), none⟩,
⟨(some 19), .ext 1 (.t 11), none⟩,
⟨(some 6), .alloc 41 [(.d (.int .u8 0)), (.d (.int .u32 0)), (.d (.int .u8 0)), (.d (.int .u32 0)), (.d (.int .u8 0)), (.d (.int .u32 0)), (.d (.int .u32 0)), (.d (.int .u8 0)), (.d (.int .u8 0)), (.d (.int .u64 0)), (.d (.int .i64 0))], none⟩,
⟨none, .store 11 (.t 6) (.t 18), none⟩,
⟨(some 7), .mv (.t 19), none⟩] [0,
1,
3,
7,
0,
31,
63,
127,
127,
0,
767,
2047] true)
(.seq
 (.seq
 (.reg [⟨(some 20), .mv (.t 7), none⟩,
⟨(some 21), .not (.t 20), none⟩] (fullB 2) false)
 (.cond (.t 21)
 (.seq
 (.reg [⟨(some 22), .bld [(.d (.int .u8 0)), (.d (.int .u32 0)), (.d (.int .u8 0)), (.d (.int .u32 0)), (.d (.int .u8 0)), (.d (.int .u32 0)), (.d (.int .u32 0)), (.d (.int .u8 0)), (.d (.int .u8 0)), (.d (.int .u64 0)), (.d (.int .i64 0))] [], none⟩,
⟨none, .store 11 (.t 4) (.t 22), none⟩,
⟨(some 5), .mv (.k (.d (.int .i64 7))), none⟩] (fullB 3) false)
 .ret)
 .skip))
 (.seq
 (.reg [⟨(some 23), .load (some 11) (.t 6), none⟩,
⟨none, .store 11 (.t 4) (.t 23), none⟩,
⟨(some 5), .mv (.k (.d (.int .i64 0))), none⟩] (fullB 3) false)
 .ret)))))
def rv : List RV := [.cell 4 (some 11), .tmp 5]
theorem c : cK Try.prog Try.f24.ntmps (Try.f24.body.getD .ret) = some s := by kernel_rfl
theorem b : Try.f24.body = some (Try.f24.body.getD .ret) := by kernel_rfl
theorem r : cRV Try.prog Try.f24.results.toList = some rv := by kernel_rfl
theorem ca : Callable Try.prog 24 = true := by kernel_rfl
theorem enter {args : List SV} {F : Hp} {k nk : Nat} {Q : SV → Hp → Prop} (hargs : SV.oks (fun n => decide (n < k)) args = true) (hF : F.ok (fun n => decide (n < k)) = true) (hN : args.length ≤ 24)
    (h : SW Try.prog 24 k s ⟨argE 0 args, F, k⟩ fun e st' => match e with | .normal => Fin k nk rv Q st' | .ret => Fin k nk rv Q st' | _ => False) : SB Try.prog 24 args F k nk Q :=
  SB.of_body Try.func24 b c r ca hargs hF hN h
end tree_Tree_Get
namespace ref10_Find
abbrev f : Nat := 25
def s : SCo := (.seq
(.reg [⟨(some 3), .box 33 (.t 1), none⟩,
⟨(some 4), .alloc 39 [(.d (.int .u8 0)), (.d (.int .u32 0)), (.d (.int .u32 0)), (.d (.int .u32 0)), (.d (.int .u32 0)), (.d (.int .u32 0)), (.d (.int .u32 0)), (.d (.int .u32 0)), (.d (.int .u32 0)), (.d (.int .u32 0)), (.d (.int .u64 0)), (.d (.int .u32 0)), (.d (.int .u8 0)), (.d (.int .u32 0)), (.d (.int .u8 0)), (.d (.int .u8 0)), (.d (.int .u32 0)), (.d (.int .u32 0)), (.d (.int .u8 0)), (.d (.int .u8 0)), (.d (.int .u64 0)), (.d (.int .u8 0)), (.d (.int .u32 0)), (.d (.int .u8 0)), (.d (.int .u32 0)), (.d (.int .u32 0)), (.d (.int .u32 0)), (.d (.int .u32 0)), (.d .nils)], none⟩,
⟨(some 5), .mv (.k (.d (.bool false))), none⟩] (fullB 3) false)
(.seq
(.seq
(.reg [⟨(some 6), .mv (.k (.d (.int .i64 0))), none⟩] (fullB 1) false)
(.block 0
 (.loop
 (.seq
 (.seq
 (.reg [⟨(some 7), .mv (.t 6), none⟩,
⟨(some 8), .mv (.t 0), none⟩,
⟨(some 9), .len (.t 8), none⟩,
⟨(some 10), .bin .lss (.t 7) (.t 9), none⟩] (fullB 4) false)
 (.cond (.t 10)
  .skip
  (.exit 0)))
 (.seq
 (.block 1
  (.seq
  (.reg [⟨(some 13), .mv (.t 0), none⟩,
⟨(some 14), .mv (.t 6), none⟩,
⟨(some 15), .idxS 29 (.t 13) (.t 14), none⟩,
⟨(some 16), .fld 0 (.t 15), none⟩,
⟨(some 17), .load (some 2) (.t 16), none⟩,
⟨(some 18), .load (some 2) (.t 3), none⟩,
⟨(some 19), .eqv false [true, true] (.t 17) (.t 18), none⟩] [0,
0,
3,
7,
15,
0,
63] true)
  (.cond (.t 19)
  (.seq
  (.reg [⟨(some 20), .mv (.t 0), none⟩,
⟨(some 21), .mv (.t 6), none⟩,
⟨(some 22), .idxS 29 (.t 20) (.t 21), none⟩,
⟨(some 23), .load (some 29) (.t 22), none⟩,
⟨none, .store 29 (.t 4) (.t 23), none⟩,
⟨(some 5), .mv (.k (.d (.bool true))), none⟩] (fullB 6) false)
  .ret)
  .skip)))
 (.reg [⟨(some 11), .mv (.t 6), none⟩,
⟨(some 12), .bin .add (.t 11) (.k (.d (.int .i64 1))), none⟩,
⟨(some 6), .mv (.t 12), none⟩] (fullB 3) false))))))
(.seq
(.reg [⟨(some 24), .bld [(.d (.int .u8 0)), (.d (.int .u32 0)), (.d (.int .u32 0)), (.d (.int .u32 0)), (.d (.int .u32 0)), (.d (.int .u32 0)), (.d (.int .u32 0)), (.d (.int .u32 0)), (.d (.int .u32 0)), (.d (.int .u32 0)), (.d (.int .u64 0)), (.d (.int .u32 0)), (.d (.int .u8 0)), (.d (.int .u32 0)), (.d (.int .u8 0)), (.d (.int .u8 0)), (.d (.int .u32 0)), (.d (.int .u32 0)), (.d (.int .u8 0)), (.d (.int .u8 0)), (.d (.int .u64 0)), (.d (.int .u8 0)), (.d (.int .u32 0)), (.d (.int .u8 0)), (.d (.int .u32 0)), (.d (.int .u32 0)), (.d (.int .u32 0)), (.d (.int .u32 0)), (.d .nils)] [], none⟩,
⟨none, .store 29 (.t 4) (.t 24), none⟩,
⟨(some 5), .mv (.k (.d (.bool false))), none⟩] (fullB 3) false)
.ret)))
def rv : List RV := [.cell 4 (some 29), .tmp 5]
theorem c : cK Try.prog Try.f25.ntmps (Try.f25.body.getD .ret) = some s := by kernel_rfl
theorem b : Try.f25.body = some (Try.f25.body.getD .ret) := by kernel_rfl
theorem r : cRV Try.prog Try.f25.results.toList = some rv := by kernel_rfl
theorem ca : Callable Try.prog 25 = true := by kernel_rfl
theorem enter {args : List SV} {F : Hp} {k nk : Nat} {Q : SV → Hp → Prop} (hargs : SV.oks (fun n => decide (n < k)) args = true) (hF : F.ok (fun n => decide (n < k)) = true) (hN : args.length ≤ 25)
    (h : SW Try.prog 25 k s ⟨argE 0 args, F, k⟩ fun e st' => match e with | .normal => Fin k nk rv Q st' | .ret => Fin k nk rv Q st' | _ => False) : SB Try.prog 25 args F k nk Q :=
  SB.of_body Try.func25 b c r ca hargs hF hN h
end ref10_Find
namespace ref10_Before
abbrev f : Nat := 26
def s : SCo := (.seq
(.reg [⟨(some 2), .box 39 (.t 0), none⟩,
⟨(some 3), .box 39 (.t 1), none⟩,
⟨(some 4), .mv (.k (.d (.bool false))), none⟩] (fullB 3) false)
(.seq
(.reg [⟨(some 5), .fld 2 (.t 3), none⟩,
⟨(some 6), .load (some 8) (.t 5), none⟩,
⟨(some 7), .fld 0 (.t 2), none⟩,
⟨(some 8), .load (some 2) (.t 7), none⟩,
⟨(some 9), .call (.k (.fn (.func 79) [] [])) [(.t 6), (.t 8)], none⟩,
⟨(some 4), .mv (.t 9), none⟩] (fullB 6) false)
.ret))
def rv : List RV := [.tmp 4]
theorem c : cK Try.prog Try.f26.ntmps (Try.f26.body.getD .ret) = some s := by kernel_rfl
theorem b : Try.f26.body = some (Try.f26.body.getD .ret) := by kernel_rfl
theorem r : cRV Try.prog Try.f26.results.toList = some rv := by kernel_rfl
theorem ca : Callable Try.prog 26 = true := by kernel_rfl
theorem enter {args : List SV} {F : Hp} {k nk : Nat} {Q : SV → Hp → Prop} (hargs : SV.oks (fun n => decide (n < k)) args = true) (hF : F.ok (fun n => decide (n < k)) = true) (hN : args.length ≤ 10)
    (h : SW Try.prog 10 k s ⟨argE 0 args, F, k⟩ fun e st' => match e with | .normal => Fin k nk rv Q st' | .ret => Fin k nk rv Q st' | _ => False) : SB Try.prog 26 args F k nk Q :=
  SB.of_body Try.func26 b c r ca hargs hF hN h
end ref10_Before
namespace tree_Tree_Above
end tree_Tree_Above
namespace ref03_Same
abbrev f : Nat := 30
def s : SCo := (.seq
(.reg [⟨(some 4), .mv (.k (.d (.bool false))), none⟩] (fullB 1) false)
(.seq
(.seq
(.reg [⟨(some 6), .mv (.t 0), none⟩,
⟨(some 7), .len (.t 6), none⟩,
⟨(some 8), .mv (.t 1), none⟩,
⟨(some 9), .len (.t 8), none⟩,
⟨(some 10), .bin .neq (.t 7) (.t 9), none⟩] (fullB 5) false)
(.cond (.t 10)
 (.seq
 (.reg [⟨(some 4), .mv (.k (.d (.bool false))), none⟩] (fullB 1) false)
 .ret)
 .skip))
(.seq
(.seq
 (.reg [⟨(some 5), .mv (.k (.d (.int .i64 0))), none⟩] (fullB 1) false)
 (.block 0
 (.loop
 (.seq
 (.seq
  (.reg [⟨(some 11), .mv (.t 5), none⟩,
⟨(some 12), .mv (.t 0), none⟩,
⟨(some 13), .len (.t 12), none⟩,
⟨(some 14), .bin .lss (.t 11) (.t 13), none⟩] (fullB 4) false)
  (.cond (.t 14)
  .skip
  (.exit 0)))
 (.seq
  (.block 1
  (.seq
  (.reg [⟨(some 17), .mv (.t 0), none⟩,
⟨(some 18), .mv (.t 5), none⟩,
⟨(some 19), .idxS 2 (.t 17) (.t 18), none⟩,
⟨(some 20), .load (some 2) (.t 19), none⟩,
⟨(some 21), .mv (.t 1), none⟩,
⟨(some 22), .mv (.t 5), none⟩,
⟨(some 23), .idxS 2 (.t 21) (.t 22), none⟩,
⟨(some 24), .load (some 2) (.t 23), none⟩,
⟨(some 25), .eqv true [true, true] (.t 20) (.t 24), none⟩] [0,
0,
3,
7,
0,
0,
48,
112,
255] true)
  (.cond (.t 25)
  (.seq
   (.reg [⟨(some 4), .mv (.k (.d (.bool false))), none⟩] (fullB 1) false)
   .ret)
  .skip)))
  (.reg [⟨(some 15), .mv (.t 5), none⟩,
⟨(some 16), .bin .add (.t 15) (.k (.d (.int .i64 1))), none⟩,
⟨(some 5), .mv (.t 16), none⟩] (fullB 3) false))))))
(.seq
 (.reg [⟨(some 4), .mv (.k (.d (.bool true))), none⟩] (fullB 1) false)
 .ret))))
def rv : List RV := [.tmp 4]
theorem c : cK Try.prog Try.f30.ntmps (Try.f30.body.getD .ret) = some s := by kernel_rfl
theorem b : Try.f30.body = some (Try.f30.body.getD .ret) := by kernel_rfl
theorem r : cRV Try.prog Try.f30.results.toList = some rv := by kernel_rfl
theorem ca : Callable Try.prog 30 = true := by kernel_rfl
theorem enter {args : List SV} {F : Hp} {k nk : Nat} {Q : SV → Hp → Prop} (hargs : SV.oks (fun n => decide (n < k)) args = true) (hF : F.ok (fun n => decide (n < k)) = true) (hN : args.length ≤ 26)
    (h : SW Try.prog 26 k s ⟨argE 0 args, F, k⟩ fun e st' => match e with | .normal => Fin k nk rv Q st' | .ret => Fin k nk rv Q st' | _ => False) : SB Try.prog 30 args F k nk Q :=
  SB.of_body Try.func30 b c r ca hargs hF hN h
end ref03_Same
namespace ref16_Get
abbrev f : Nat := 35
def s : SCo := (.seq
(.reg [⟨(some 3), .box 33 (.t 1), none⟩,
⟨(some 4), .alloc 41 [(.d (.int .u8 0)), (.d (.int .u32 0)), (.d (.int .u8 0)), (.d (.int .u32 0)), (.d (.int .u8 0)), (.d (.int .u32 0)), (.d (.int .u32 0)), (.d (.int .u8 0)), (.d (.int .u8 0)), (.d (.int .u64 0)), (.d (.int .i64 0))], none⟩,
⟨(some 5), .mv (.k (.d (.bool false))), none⟩] (fullB 3) false)
(.seq
(.reg [⟨(some 6), .mv (.t 0), none⟩,
⟨(some 7), .load (some 2) (.t 3), none⟩,
⟨(some 8), .call (.k (.fn (.func 98) [] [])) [(.t 6), (.t 7), (.k (.d (.int .i64 10)))], none⟩,
⟨(some 9), .ext 0 (.t 8), none⟩,
⟨(some 10), .ext 1 (.t 8), none⟩,
⟨none, .store 11 (.t 4) (.t 9), none⟩,
⟨(some 5), .mv (.t 10), none⟩] (fullB 7) false)
.ret))
def rv : List RV := [.cell 4 (some 11), .tmp 5]
theorem c : cK Try.prog Try.f35.ntmps (Try.f35.body.getD .ret) = some s := by kernel_rfl
theorem b : Try.f35.body = some (Try.f35.body.getD .ret) := by kernel_rfl
theorem r : cRV Try.prog Try.f35.results.toList = some rv := by kernel_rfl
theorem ca : Callable Try.prog 35 = true := by kernel_rfl
theorem enter {args : List SV} {F : Hp} {k nk : Nat} {Q : SV → Hp → Prop} (hargs : SV.oks (fun n => decide (n < k)) args = true) (hF : F.ok (fun n => decide (n < k)) = true) (hN : args.length ≤ 11)
    (h : SW Try.prog 11 k s ⟨argE 0 args, F, k⟩ fun e st' => match e with | .normal => Fin k nk rv Q st' | .ret => Fin k nk rv Q st' | _ => False) : SB Try.prog 35 args F k nk Q :=
  SB.of_body Try.func35 b c r ca hargs hF hN h
end ref16_Get
namespace ref16_Chain
abbrev f : Nat := 36
def s : SCo := (.seq
(.reg [⟨(some 3), .box 33 (.t 1), none⟩,
⟨(some 4), .mv (.k (.d .nils)), none⟩,
⟨(some 5), .mv (.k (.d (.int .i64 0))), none⟩] (fullB 3) false)
(.seq
(.reg [⟨(some 10), .mv (.t 0), none⟩,
⟨(some 11), .load (some 2) (.t 3), none⟩,
⟨(some 12), .call (.k (.fn (.func 35) [] [])) [(.t 10), (.t 11)], none⟩,
⟨(some 9), .mv (.t 12), none⟩,
⟨(some 13), .ext 0 (.t 9), none⟩,
⟨(some 14), .ext 1 (.t 9), none⟩,
⟨(some 6), .alloc 41 [(.d (.int .u8 0)), (.d (.int .u32 0)), (.d (.int .u8 0)), (.d (.int .u32 0)), (.d (.int .u8 0)), (.d (.int .u32 0)), (.d (.int .u32 0)), (.d (.int .u8 0)), (.d (.int .u8 0)), (.d (.int .u64 0)), (.d (.int .i64 0))], none⟩,
⟨none, .store 11 (.t 6) (.t 13), none⟩,
⟨(some 7), .mv (.t 14), none⟩] (fullB 9) false)
(.seq
(.seq
 (.reg [⟨(some 15), .mv (.t 7), none⟩,
⟨(some 16), .not (.t 15), none⟩] (fullB 2) false)
 (.cond (.t 16)
 (.seq
 (.reg [⟨(some 4), .mv (.k (.d .nils)), none⟩,
⟨(some 5), .mv (.k (.d (.int .i64 7))), none⟩] (fullB 2) false)
 .ret)
 .skip))
(.seq
 (.reg [⟨(some 17), .load (some 2) (.t 3), none⟩,
⟨(some 18), .bsl 33 2 1 [(.d (.int .u8 0)), (.d (.int .u32 0))] [(0, 2, (.t 17))], none⟩,
⟨(some 8), .mv (.t 18), none⟩] (fullB 3) false)
 (.seq
 (.block 0
 (.loop
 (.seq
  (.seq
  (.reg [⟨(some 19), .fld 10 (.t 6), none⟩,
⟨(some 20), .load none (.t 19), none⟩,
⟨(some 21), .bin .gtr (.t 20) (.k (.d (.int .i64 0))), none⟩] (fullB 3) false)
  (.cond (.t 21)
  .skip
  (.exit 0)))
  (.block 1
  (.seq
  (.reg [⟨(some 22), .mv (.t 8), none⟩,
⟨(some 23), .fld 4 (.t 6), none⟩,
⟨(some 24), .load (some 2) (.t 23), none⟩,
⟨(some 25), .bsl 33 2 1 [(.d (.int .u8 0)), (.d (.int .u32 0))] [(0, 2, (.t 24))], none⟩,
⟨(some 26), .app 33 2 8 (.t 22) (.t 25), none⟩,
⟨(some 8), .mv (.t 26), none⟩] (fullB 6) false)
  (.reg [⟨(some 28), .mv (.t 0), none⟩,
⟨(some 29), .fld 4 (.t 6), none⟩,
⟨(some 30), .load (some 2) (.t 29), none⟩,
⟨(some 31), .call (.k (.fn (.func 35) [] [])) [(.t 28), (.t 30)], none⟩,
⟨(some 27), .mv (.t 31), none⟩,
⟨(some 32), .ext 0 (.t 27), none⟩,
⟨(some 33), .ext 1 (.t 27), none⟩,
⟨none, .store 11 (.t 6) (.t 32), none⟩] (fullB 8) false))))))
 (.seq
 (.reg [⟨(some 34), .mv (.t 8), none⟩,
⟨(some 4), .mv (.t 34), none⟩,
⟨(some 5), .mv (.k (.d (.int .i64 0))), none⟩] (fullB 3) false)
 .ret))))))
def rv : List RV := [.tmp 4, .tmp 5]
theorem c : cK Try.prog Try.f36.ntmps (Try.f36.body.getD .ret) = some s := by kernel_rfl
theorem b : Try.f36.body = some (Try.f36.body.getD .ret) := by kernel_rfl
theorem r : cRV Try.prog Try.f36.results.toList = some rv := by kernel_rfl
theorem ca : Callable Try.prog 36 = true := by kernel_rfl
theorem enter {args : List SV} {F : Hp} {k nk : Nat} {Q : SV → Hp → Prop} (hargs : SV.oks (fun n => decide (n < k)) args = true) (hF : F.ok (fun n => decide (n < k)) = true) (hN : args.length ≤ 35)
    (h : SW Try.prog 35 k s ⟨argE 0 args, F, k⟩ fun e st' => match e with | .normal => Fin k nk rv Q st' | .ret => Fin k nk rv Q st' | _ => False) : SB Try.prog 36 args F k nk Q :=
  SB.of_body Try.func36 b c r ca hargs hF hN h
end ref16_Chain
namespace ref16_Above
end ref16_Above
namespace ref16_All
end ref16_All
namespace ref16_Same
end ref16_Same
namespace tree_Tree_All
end tree_Tree_All
namespace tree_Tree_Held
end tree_Tree_Held
namespace tree_Tree_Why
abbrev f : Nat := 42
def s : SCo := (.seq
(.reg [⟨(some 2), .box 25 (.t 0), none⟩,
⟨(some 3), .box 39 (.t 1), none⟩,
⟨(some 4), .mv (.k (.d (.int .i64 0))), none⟩] (fullB 3) false)
(.seq
(.seq
(.reg [⟨(some 9), .load none (.t 2), none⟩,
⟨(some 10), .call (.k (.fn (.func 78) [] [])) [(.t 9)], none⟩] (fullB 2) false)
(.cond (.t 10)
 (.seq
 (.reg [⟨(some 4), .mv (.k (.d (.int .i64 1))), none⟩] (fullB 1) false)
 .ret)
 .skip))
(.seq
(.reg [⟨(some 12), .load none (.t 2), none⟩,
⟨(some 13), .nilc (.t 12), none⟩,
⟨(some 14), .fld 0 (.t 13), none⟩,
⟨(some 15), .load none (.t 14), none⟩,
⟨(some 16), .fld 15 (.t 3), none⟩,
⟨(some 17), .load (some 2) (.t 16), none⟩,
⟨(some 18), .look [true, true] true (.agg [(.d (.int .u8 0)), (.d (.int .u32 0)), (.d (.int .u8 0)), (.d (.int .u32 0)), (.d (.int .u8 0)), (.d (.int .u32 0)), (.d (.int .u32 0)), (.d (.int .u8 0)), (.d (.int .u8 0)), (.d (.int .u64 0)), (.d (.int .i64 0))]) (.t 15) (.t 17) true, none⟩,
⟨(some 11), .mv (.t 18), none⟩,
⟨(some 19), .ext 0 (.t 11), none⟩,
⟨(some 20), .ext 1 (.t 11), none⟩,
⟨(some 5), .alloc 41 [(.d (.int .u8 0)), (.d (.int .u32 0)), (.d (.int .u8 0)), (.d (.int .u32 0)), (.d (.int .u8 0)), (.d (.int .u32 0)), (.d (.int .u32 0)), (.d (.int .u8 0)), (.d (.int .u8 0)), (.d (.int .u64 0)), (.d (.int .i64 0))], none⟩,
⟨(some 6), .alloc 4 [(.d (.bool false))], none⟩,
⟨none, .store 11 (.t 5) (.t 19), none⟩,
⟨none, .store 1 (.t 6) (.t 20), none⟩] [0,
1,
3,
7,
0,
16,
63,
127,
255,
255,
0,
0,
3583,
8191] true)
(.seq
 (.seq
 (.reg [⟨(some 21), .mkf (.func 105) [] [(.t 3)], none⟩,
⟨(some 22), .bld [(.d (.int .i64 0)), (.d .nilf)] [(0, 1, (.k (.d (.int .i64 2)))), (1, 1, (.t 21))], none⟩,
⟨(some 23), .mkf (.func 106) [] [(.t 6), (.t 5), (.t 3), (.t 2)], none⟩,
⟨(some 24), .bld [(.d (.int .i64 0)), (.d .nilf)] [(0, 1, (.k (.d (.int .i64 272)))), (1, 1, (.t 23))], none⟩,
⟨(some 25), .mkf (.func 108) [] [(.t 5), (.t 3)], none⟩,
⟨(some 26), .bld [(.d (.int .i64 0)), (.d .nilf)] [(0, 1, (.k (.d (.int .i64 273)))), (1, 1, (.t 25))], none⟩,
⟨(some 27), .mkf (.func 109) [] [(.t 5)], none⟩,
⟨(some 28), .bld [(.d (.int .i64 0)), (.d .nilf)] [(0, 1, (.k (.d (.int .i64 274)))), (1, 1, (.t 27))], none⟩,
⟨(some 29), .mkf (.func 110) [] [(.t 3), (.t 5)], none⟩,
⟨(some 30), .bld [(.d (.int .i64 0)), (.d .nilf)] [(0, 1, (.k (.d (.int .i64 275)))), (1, 1, (.t 29))], none⟩,
⟨(some 31), .bld [(.d (.int .i64 0)), (.d .nilf), (.d (.int .i64 0)), (.d .nilf), (.d (.int .i64 0)), (.d .nilf), (.d (.int .i64 0)), (.d .nilf), (.d (.int .i64 0)), (.d .nilf)] [(0, 2, (.t 22)), (2, 2, (.t 24)), (4, 2, (.t 26)), (6, 2, (.t 28)), (8, 2, (.t 30))], none⟩,
⟨(some 32), .mv (.k (.d (.int .i64 0))), none⟩] (fullB 12) false)
 (.block 0
 (.loop
 (.seq
  (.reg [⟨(some 33), .bin .lss (.t 32) (.k (.d (.int .i64 5))), none⟩] (fullB 1) false)
  (.seq
  (.cond (.t 33)
  .skip
  (.exit 0))
  (.seq
  (.block 1
  (.seq
   (.reg [⟨(some 34), .index 5 2 true (.t 31) (.t 32), none⟩,
⟨(some 8), .alloc 160 [(.d (.int .i64 0)), (.d .nilf)], none⟩,
⟨none, .store 2 (.t 8) (.t 34), none⟩] (fullB 3) false)
   (.seq
   (.reg [⟨(some 35), .fld 1 (.t 8), none⟩,
⟨(some 36), .load none (.t 35), none⟩,
⟨(some 37), .call (.t 36) [], none⟩] (fullB 3) false)
   (.cond (.t 37)
   (.seq
   (.reg [⟨(some 38), .fld 0 (.t 8), none⟩,
⟨(some 39), .load none (.t 38), none⟩,
⟨(some 4), .mv (.t 39), none⟩] (fullB 3) false)
   .ret)
   .skip))))
  (.reg [⟨(some 40), .bin .add (.t 32) (.k (.d (.int .i64 1))), none⟩,
⟨(some 32), .mv (.t 40), none⟩] (fullB 2) false)))))))
 (.seq
 (.reg [⟨(some 4), .mv (.k (.d (.int .i64 0))), none⟩] (fullB 1) false)
 .ret)))))
def rv : List RV := [.tmp 4]
theorem c : cK Try.prog Try.f42.ntmps (Try.f42.body.getD .ret) = some s := by kernel_rfl
theorem b : Try.f42.body = some (Try.f42.body.getD .ret) := by kernel_rfl
theorem r : cRV Try.prog Try.f42.results.toList = some rv := by kernel_rfl
theorem ca : Callable Try.prog 42 = true := by kernel_rfl
theorem enter {args : List SV} {F : Hp} {k nk : Nat} {Q : SV → Hp → Prop} (hargs : SV.oks (fun n => decide (n < k)) args = true) (hF : F.ok (fun n => decide (n < k)) = true) (hN : args.length ≤ 41)
    (h : SW Try.prog 41 k s ⟨argE 0 args, F, k⟩ fun e st' => match e with | .normal => Fin k nk rv Q st' | .ret => Fin k nk rv Q st' | _ => False) : SB Try.prog 42 args F k nk Q :=
  SB.of_body Try.func42 b c r ca hargs hF hN h
end tree_Tree_Why
namespace ref16_Why
end ref16_Why
namespace ref03_In
abbrev f : Nat := 44
def s : SCo := (.seq
(.reg [⟨(some 3), .box 33 (.t 1), none⟩,
⟨(some 4), .mv (.k (.d (.bool false))), none⟩] (fullB 2) false)
(.seq
(.seq
(.reg [⟨(some 5), .mv (.k (.d (.int .i64 0))), none⟩] (fullB 1) false)
(.block 0
 (.loop
 (.seq
 (.seq
 (.reg [⟨(some 6), .mv (.t 5), none⟩,
⟨(some 7), .mv (.t 0), none⟩,
⟨(some 8), .len (.t 7), none⟩,
⟨(some 9), .bin .lss (.t 6) (.t 8), none⟩] (fullB 4) false)
 (.cond (.t 9)
  .skip
  (.exit 0)))
 (.seq
 (.block 1
  (.seq
  (.reg [⟨(some 12), .mv (.t 0), none⟩,
⟨(some 13), .mv (.t 5), none⟩,
⟨(some 14), .idxS 2 (.t 12) (.t 13), none⟩,
⟨(some 15), .load (some 2) (.t 14), none⟩,
⟨(some 16), .load (some 2) (.t 3), none⟩,
⟨(some 17), .eqv false [true, true] (.t 15) (.t 16), none⟩] [0,
0,
3,
7,
0,
31] true)
  (.cond (.t 17)
  (.seq
  (.reg [⟨(some 4), .mv (.k (.d (.bool true))), none⟩] (fullB 1) false)
  .ret)
  .skip)))
 (.reg [⟨(some 10), .mv (.t 5), none⟩,
⟨(some 11), .bin .add (.t 10) (.k (.d (.int .i64 1))), none⟩,
⟨(some 5), .mv (.t 11), none⟩] (fullB 3) false))))))
(.seq
(.reg [⟨(some 4), .mv (.k (.d (.bool false))), none⟩] (fullB 1) false)
.ret)))
def rv : List RV := [.tmp 4]
theorem c : cK Try.prog Try.f44.ntmps (Try.f44.body.getD .ret) = some s := by kernel_rfl
theorem b : Try.f44.body = some (Try.f44.body.getD .ret) := by kernel_rfl
theorem r : cRV Try.prog Try.f44.results.toList = some rv := by kernel_rfl
theorem ca : Callable Try.prog 44 = true := by kernel_rfl
theorem enter {args : List SV} {F : Hp} {k nk : Nat} {Q : SV → Hp → Prop} (hargs : SV.oks (fun n => decide (n < k)) args = true) (hF : F.ok (fun n => decide (n < k)) = true) (hN : args.length ≤ 18)
    (h : SW Try.prog 18 k s ⟨argE 0 args, F, k⟩ fun e st' => match e with | .normal => Fin k nk rv Q st' | .ret => Fin k nk rv Q st' | _ => False) : SB Try.prog 44 args F k nk Q :=
  SB.of_body Try.func44 b c r ca hargs hF hN h
end ref03_In
namespace law16_b
end law16_b
namespace law16_g
end law16_g
namespace law16_a
end law16_a
namespace slices_DeleteFunc_Lapi_Op_api_Op
abbrev f : Nat := 73
def s : SCo := (.seq
(.reg [⟨(some 4), .mv (.k (.d .nils)), none⟩] (fullB 1) false)
(.seq
(.reg [⟨(some 8), .mv (.t 0), none⟩,
⟨(some 9), .mv (.t 1), none⟩,
⟨(some 10), .call (.k (.fn (.func 138) [] [])) [(.t 8), (.t 9)], none⟩,
⟨(some 5), .mv (.t 10), none⟩] (fullB 4) false)
(.seq
(.seq
 (.reg [⟨(some 11), .mv (.t 5), none⟩,
⟨(some 12), .bin .eql (.t 11) (.k (.d (.int .i64 (-1)))), none⟩] (fullB 2) false)
 (.cond (.t 12)
 (.seq
 (.reg [⟨(some 13), .mv (.t 0), none⟩,
⟨(some 4), .mv (.t 13), none⟩] (fullB 2) false)
 .ret)
 .skip))
(.seq
 (.seq
 (.reg [⟨(some 14), .mv (.t 5), none⟩,
⟨(some 15), .bin .add (.t 14) (.k (.d (.int .i64 1))), none⟩,
⟨(some 6), .mv (.t 15), none⟩] (fullB 3) false)
 (.block 0
 (.loop
 (.seq
  (.seq
  (.reg [⟨(some 16), .mv (.t 6), none⟩,
⟨(some 17), .mv (.t 0), none⟩,
⟨(some 18), .len (.t 17), none⟩,
⟨(some 19), .bin .lss (.t 16) (.t 18), none⟩] (fullB 4) false)
  (.cond (.t 19)
  .skip
  (.exit 0)))
  (.seq
  (.block 1
  (.seq
  (.reg [⟨(some 22), .mv (.t 0), none⟩,
⟨(some 23), .mv (.t 6), none⟩,
⟨(some 24), .idxS 29 (.t 22) (.t 23), none⟩,
⟨(some 25), .load (some 29) (.t 24), none⟩,
⟨(some 7), .alloc 39 [(.d (.int .u8 0)), (.d (.int .u32 0)), (.d (.int .u32 0)), (.d (.int .u32 0)), (.d (.int .u32 0)), (.d (.int .u32 0)), (.d (.int .u32 0)), (.d (.int .u32 0)), (.d (.int .u32 0)), (.d (.int .u32 0)), (.d (.int .u64 0)), (.d (.int .u32 0)), (.d (.int .u8 0)), (.d (.int .u32 0)), (.d (.int .u8 0)), (.d (.int .u8 0)), (.d (.int .u32 0)), (.d (.int .u32 0)), (.d (.int .u8 0)), (.d (.int .u8 0)), (.d (.int .u64 0)), (.d (.int .u8 0)), (.d (.int .u32 0)), (.d (.int .u8 0)), (.d (.int .u32 0)), (.d (.int .u32 0)), (.d (.int .u32 0)), (.d (.int .u32 0)), (.d .nils)], none⟩,
⟨none, .store 29 (.t 7) (.t 25), none⟩] (fullB 6) false)
  (.seq
   (.reg [⟨(some 26), .mv (.t 1), none⟩,
⟨(some 27), .load (some 29) (.t 7), none⟩,
⟨(some 28), .call (.t 26) [(.t 27)], none⟩,
⟨(some 29), .not (.t 28), none⟩] (fullB 4) false)
   (.cond (.t 29)
   (.seq
   (.reg [⟨(some 30), .mv (.t 0), none⟩,
⟨(some 31), .mv (.t 5), none⟩,
⟨(some 32), .load (some 29) (.t 7), none⟩,
⟨(some 33), .idxS 29 (.t 30) (.t 31), none⟩,
⟨none, .store 29 (.t 33) (.t 32), none⟩] (fullB 5) false)
   (.reg [⟨(some 34), .mv (.t 5), none⟩,
⟨(some 35), .bin .add (.t 34) (.k (.d (.int .i64 1))), none⟩,
⟨(some 5), .mv (.t 35), none⟩] (fullB 3) false))
   .skip))))
  (.reg [⟨(some 20), .mv (.t 6), none⟩,
⟨(some 21), .bin .add (.t 20) (.k (.d (.int .i64 1))), none⟩,
⟨(some 6), .mv (.t 21), none⟩] (fullB 3) false))))))
 (.seq
 (.reg [⟨(some 36), .mv (.t 0), none⟩,
⟨(some 37), .mv (.t 5), none⟩,
⟨(some 38), .slc 29 (.t 36) (some (.t 37)) none, none⟩,
⟨none, .clr 29 [(.d (.int .u8 0)), (.d (.int .u32 0)), (.d (.int .u32 0)), (.d (.int .u32 0)), (.d (.int .u32 0)), (.d (.int .u32 0)), (.d (.int .u32 0)), (.d (.int .u32 0)), (.d (.int .u32 0)), (.d (.int .u32 0)), (.d (.int .u64 0)), (.d (.int .u32 0)), (.d (.int .u8 0)), (.d (.int .u32 0)), (.d (.int .u8 0)), (.d (.int .u8 0)), (.d (.int .u32 0)), (.d (.int .u32 0)), (.d (.int .u8 0)), (.d (.int .u8 0)), (.d (.int .u64 0)), (.d (.int .u8 0)), (.d (.int .u32 0)), (.d (.int .u8 0)), (.d (.int .u32 0)), (.d (.int .u32 0)), (.d (.int .u32 0)), (.d (.int .u32 0)), (.d .nils)] (.t 38), none⟩] (fullB 4) false)
 (.seq
 (.reg [⟨(some 39), .mv (.t 0), none⟩,
⟨(some 40), .mv (.t 5), none⟩,
⟨(some 41), .slc 29 (.t 39) none (some (.t 40)), none⟩,
⟨(some 4), .mv (.t 41), none⟩] (fullB 4) false)
 .ret))))))
def rv : List RV := [.tmp 4]
theorem c : cK Try.prog Try.f73.ntmps (Try.f73.body.getD .ret) = some s := by kernel_rfl
theorem b : Try.f73.body = some (Try.f73.body.getD .ret) := by kernel_rfl
theorem r : cRV Try.prog Try.f73.results.toList = some rv := by kernel_rfl
theorem ca : Callable Try.prog 73 = true := by kernel_rfl
theorem enter {args : List SV} {F : Hp} {k nk : Nat} {Q : SV → Hp → Prop} (hargs : SV.oks (fun n => decide (n < k)) args = true) (hF : F.ok (fun n => decide (n < k)) = true) (hN : args.length ≤ 42)
    (h : SW Try.prog 42 k s ⟨argE 0 args, F, k⟩ fun e st' => match e with | .normal => Fin k nk rv Q st' | .ret => Fin k nk rv Q st' | _ => False) : SB Try.prog 73 args F k nk Q :=
  SB.of_body Try.func73 b c r ca hargs hF hN h
end slices_DeleteFunc_Lapi_Op_api_Op
namespace slices_Clone_Lapi_Op_api_Op
abbrev f : Nat := 74
def s : SCo := (.seq
(.reg [⟨(some 2), .mv (.k (.d .nils)), none⟩] (fullB 1) false)
(.seq
(.seq
(.reg [⟨(some 3), .mv (.t 0), none⟩,
⟨(some 4), .eqnil false 3 (.t 3), none⟩] (fullB 2) false)
(.cond (.t 4)
 (.seq
 (.reg [⟨(some 2), .mv (.k (.d .nils)), none⟩] (fullB 1) false)
 .ret)
 .skip))
(.seq
(.reg [⟨(some 5), .bsl 39 29 0 [] [], none⟩,
⟨(some 6), .mv (.t 0), none⟩,
⟨(some 7), .app 39 29 144 (.t 5) (.t 6), none⟩,
⟨(some 2), .mv (.t 7), none⟩] (fullB 4) false)
.ret)))
def rv : List RV := [.tmp 2]
theorem c : cK Try.prog Try.f74.ntmps (Try.f74.body.getD .ret) = some s := by kernel_rfl
theorem b : Try.f74.body = some (Try.f74.body.getD .ret) := by kernel_rfl
theorem r : cRV Try.prog Try.f74.results.toList = some rv := by kernel_rfl
theorem ca : Callable Try.prog 74 = true := by kernel_rfl
theorem enter {args : List SV} {F : Hp} {k nk : Nat} {Q : SV → Hp → Prop} (hargs : SV.oks (fun n => decide (n < k)) args = true) (hF : F.ok (fun n => decide (n < k)) = true) (hN : args.length ≤ 8)
    (h : SW Try.prog 8 k s ⟨argE 0 args, F, k⟩ fun e st' => match e with | .normal => Fin k nk rv Q st' | .ret => Fin k nk rv Q st' | _ => False) : SB Try.prog 74 args F k nk Q :=
  SB.of_body Try.func74 b c r ca hargs hF hN h
end slices_Clone_Lapi_Op_api_Op
namespace tree_New_1
abbrev f : Nat := 75
def s : SCo := (.seq
(.reg [⟨(some 2), .box 39 (.t 0), none⟩,
⟨(some 3), .mv (.k (.d (.bool false))), none⟩] (fullB 2) false)
(.seq
(.reg [⟨(some 4), .load none (.t 1), none⟩,
⟨(some 5), .fld 0 (.t 2), none⟩,
⟨(some 6), .load (some 2) (.t 5), none⟩,
⟨(some 7), .look [true, true] true (.d (.int .i64 0)) (.t 4) (.t 6) false, none⟩,
⟨(some 8), .bin .add (.t 7) (.k (.d (.int .i64 1))), none⟩,
⟨(some 9), .mentr [true, true] true (.d (.int .i64 0)) (.t 4) (.t 6), none⟩,
⟨(some 10), .ext 1 (.t 9), none⟩,
⟨none, .mstor (.t 4) (.t 10) (.t 8), none⟩] [0,
0,
2,
7,
15,
7,
39,
127] true)
(.seq
(.reg [⟨(some 11), .load none (.t 1), none⟩,
⟨(some 12), .fld 0 (.t 2), none⟩,
⟨(some 13), .load (some 2) (.t 12), none⟩,
⟨(some 14), .look [true, true] true (.d (.int .i64 0)) (.t 11) (.t 13) false, none⟩,
⟨(some 15), .bin .gtr (.t 14) (.k (.d (.int .i64 1))), none⟩,
⟨(some 16), .mv (.t 15), none⟩,
⟨(some 17), .fld 14 (.t 2), some (16, false)⟩,
⟨(some 18), .load none (.t 17), some (16, false)⟩,
⟨(some 19), .bin .gtr (.t 18) (.k (.d (.int .u8 1))), some (16, false)⟩,
⟨(some 20), .pick (.t 16) (.k (.d (.bool true))) (.t 19), none⟩,
⟨(some 3), .mv (.t 20), none⟩] (fullB 11) false)
.ret)))
def rv : List RV := [.tmp 3]
theorem c : cK Try.prog Try.f75.ntmps (Try.f75.body.getD .ret) = some s := by kernel_rfl
theorem b : Try.f75.body = some (Try.f75.body.getD .ret) := by kernel_rfl
theorem r : cRV Try.prog Try.f75.results.toList = some rv := by kernel_rfl
theorem ca : Callable Try.prog 75 = true := by kernel_rfl
theorem enter {args : List SV} {F : Hp} {k nk : Nat} {Q : SV → Hp → Prop} (hargs : SV.oks (fun n => decide (n < k)) args = true) (hF : F.ok (fun n => decide (n < k)) = true) (hN : args.length ≤ 21)
    (h : SW Try.prog 21 k s ⟨argE 0 args, F, k⟩ fun e st' => match e with | .normal => Fin k nk rv Q st' | .ret => Fin k nk rv Q st' | _ => False) : SB Try.prog 75 args F k nk Q :=
  SB.of_body Try.func75 b c r ca hargs hF hN h
end tree_New_1
namespace tree_Tree_put
abbrev f : Nat := 76
def s : SCo := (.seq
(.reg [⟨(some 3), .box 39 (.t 1), none⟩,
⟨(some 4), .mv (.k (.d (.bool false))), none⟩] (fullB 2) false)
(.seq
(.reg [⟨(some 6), .fld 0 (.t 3), none⟩,
⟨(some 7), .load (some 2) (.t 6), none⟩,
⟨(some 8), .fld 0 (.t 3), none⟩,
⟨(some 9), .load (some 2) (.t 8), none⟩,
⟨(some 10), .fld 11 (.t 3), none⟩,
⟨(some 11), .load none (.t 10), none⟩,
⟨(some 12), .bld [(.d (.int .u8 0)), (.d (.int .u32 0)), (.d (.int .u8 0)), (.d (.int .u32 0)), (.d (.int .u8 0)), (.d (.int .u32 0)), (.d (.int .u32 0)), (.d (.int .u8 0)), (.d (.int .u8 0)), (.d (.int .u64 0)), (.d (.int .i64 0))] [(0, 2, (.t 7)), (2, 2, (.t 9)), (6, 1, (.t 11)), (7, 1, (.k (.d (.int .u8 7)))), (8, 1, (.k (.d (.int .u8 8)))), (9, 1, (.k (.d (.int .u64 1099511627776))))], none⟩,
⟨(some 5), .alloc 41 [(.d (.int .u8 0)), (.d (.int .u32 0)), (.d (.int .u8 0)), (.d (.int .u32 0)), (.d (.int .u8 0)), (.d (.int .u32 0)), (.d (.int .u32 0)), (.d (.int .u8 0)), (.d (.int .u8 0)), (.d (.int .u64 0)), (.d (.int .i64 0))], none⟩,
⟨none, .store 11 (.t 5) (.t 12), none⟩] (fullB 9) false)
(.seq
(.block 0
 (.seq
 (.reg (⟨(some 14), .fld 14 (.t 3), none⟩ ::
⟨(some 15), .load none (.t 14), none⟩ ::
⟨(some 16), .bin .eql (.t 15) (.k (.d (.int .u8 0))), none⟩ ::
⟨(some 17), .mv (.t 16), none⟩ ::
⟨(some 18), .fld 12 (.t 3), some (17, true)⟩ ::
⟨(some 19), .load (some 2) (.t 18), some (17, true)⟩ ::
⟨(some 20), .fld 0 (.t 3), some (17, true)⟩ ::
⟨(some 21), .load (some 2) (.t 20), some (17, true)⟩ ::
⟨(some 22), .eqv true [true, true] (.t 19) (.t 21), some (17, true)⟩ ::
⟨(some 23), .pick (.t 17) (.t 22) (.k (.d (.bool false))), none⟩ ::
⟨(some 24), .mv (.t 23), none⟩ ::
⟨(some 25), .fld 14 (.t 3), some (24, false)⟩ ::
⟨(some 26), .load none (.t 25), some (24, false)⟩ ::
⟨(some 27), .bin .eql (.t 26) (.k (.d (.int .u8 1))), some (24, false)⟩ ::
⟨(some 28), .mv (.t 27), some (24, false)⟩ ::
⟨(some 29), .mv (.t 0), some (28, true)⟩ ::
⟨(some 30), .load (some 29) (.t 3), some (28, true)⟩ ::
⟨(some 31), .call (.k (.fn (.func 42) [] [])) [(.t 29), (.t 30)], some (28, true)⟩ ::
⟨(some 32), .bin .neq (.t 31) (.k (.d (.int .i64 0))), some (28, true)⟩ ::
⟨(some 33), .pick (.t 28) (.t 32) (.k (.d (.bool false))), some (24, false)⟩ ::
⟨(some 34), .pick (.t 24) (.k (.d (.bool true))) (.t 33), none⟩ ::
⟨(some 13), .mv (.t 34), none⟩ :: []) (fullB 22) false)
 (.cond (.t 13)
 (.seq
 (.reg [⟨(some 4), .mv (.k (.d (.bool false))), none⟩] (fullB 1) false)
 .ret)
 (.seq
 (.reg [⟨(some 36), .fld 14 (.t 3), none⟩,
⟨(some 37), .load none (.t 36), none⟩,
⟨(some 38), .bin .eql (.t 37) (.k (.d (.int .u8 1))), none⟩,
⟨(some 35), .mv (.t 38), none⟩] (fullB 4) false)
 (.cond (.t 35)
  (.reg (⟨(some 39), .fld 0 (.t 3), none⟩ ::
⟨(some 40), .load (some 2) (.t 39), none⟩ ::
⟨(some 41), .fld 12 (.t 3), none⟩ ::
⟨(some 42), .load (some 2) (.t 41), none⟩ ::
⟨(some 43), .fld 15 (.t 3), none⟩ ::
⟨(some 44), .load (some 2) (.t 43), none⟩ ::
⟨(some 45), .fld 17 (.t 3), none⟩ ::
⟨(some 46), .load none (.t 45), none⟩ ::
⟨(some 47), .fld 18 (.t 3), none⟩ ::
⟨(some 48), .load none (.t 47), none⟩ ::
⟨(some 49), .fld 19 (.t 3), none⟩ ::
⟨(some 50), .load none (.t 49), none⟩ ::
⟨(some 51), .fld 20 (.t 3), none⟩ ::
⟨(some 52), .load none (.t 51), none⟩ ::
⟨(some 53), .mv (.t 0), none⟩ ::
⟨(some 54), .nilc (.t 53), none⟩ ::
⟨(some 55), .fld 0 (.t 54), none⟩ ::
⟨(some 56), .load none (.t 55), none⟩ ::
⟨(some 57), .fld 15 (.t 3), none⟩ ::
⟨(some 58), .load (some 2) (.t 57), none⟩ ::
⟨(some 59), .look [true, true] true (.agg [(.d (.int .u8 0)), (.d (.int .u32 0)), (.d (.int .u8 0)), (.d (.int .u32 0)), (.d (.int .u8 0)), (.d (.int .u32 0)), (.d (.int .u32 0)), (.d (.int .u8 0)), (.d (.int .u8 0)), (.d (.int .u64 0)), (.d (.int .i64 0))]) (.t 56) (.t 58) false, none⟩ ::
⟨(some 60), .field 10 none (.t 59), none⟩ ::
⟨(some 61), .bin .add (.t 60) (.k (.d (.int .i64 1))), none⟩ ::
⟨(some 62), .bld [(.d (.int .u8 0)), (.d (.int .u32 0)), (.d (.int .u8 0)), (.d (.int .u32 0)), (.d (.int .u8 0)), (.d (.int .u32 0)), (.d (.int .u32 0)), (.d (.int .u8 0)), (.d (.int .u8 0)), (.d (.int .u64 0)), (.d (.int .i64 0))] [(0, 2, (.t 40)), (2, 2, (.t 42)), (4, 2, (.t 44)), (6, 1, (.t 46)), (7, 1, (.t 48)), (8, 1, (.t 50)), (9, 1, (.t 52)), (10, 1, (.t 61))], none⟩ ::
⟨none, .store 11 (.t 5) (.t 62), none⟩ :: []) (0 ::
1 ::
0 ::
4 ::
0 ::
16 ::
0 ::
64 ::
0 ::
256 ::
0 ::
1024 ::
0 ::
4096 ::
0 ::
16384 ::
49152 ::
114688 ::
0 ::
262144 ::
1032192 ::
2080768 ::
4177920 ::
8388607 ::
16777215 :: []) true)
  .skip)))))
(.seq
 (.reg (⟨(some 63), .mv (.t 0), none⟩ ::
⟨(some 64), .nilc (.t 63), none⟩ ::
⟨(some 65), .fld 0 (.t 64), none⟩ ::
⟨(some 66), .load none (.t 65), none⟩ ::
⟨(some 67), .fld 0 (.t 3), none⟩ ::
⟨(some 68), .load (some 2) (.t 67), none⟩ ::
⟨(some 69), .mv (.t 0), none⟩ ::
⟨(some 70), .nilc (.t 69), none⟩ ::
⟨(some 71), .fld 1 (.t 70), none⟩ ::
⟨(some 72), .load none (.t 71), none⟩ ::
⟨(some 73), .fld 0 (.t 3), none⟩ ::
⟨(some 74), .load (some 2) (.t 73), none⟩ ::
⟨(some 75), .load (some 11) (.t 5), none⟩ ::
⟨(some 76), .load (some 29) (.t 3), none⟩ ::
⟨(some 77), .mentr [true, true] true (.agg [(.d (.int .u8 0)), (.d (.int .u32 0)), (.d (.int .u8 0)), (.d (.int .u32 0)), (.d (.int .u8 0)), (.d (.int .u32 0)), (.d (.int .u32 0)), (.d (.int .u8 0)), (.d (.int .u8 0)), (.d (.int .u64 0)), (.d (.int .i64 0))]) (.t 66) (.t 68), none⟩ ::
⟨(some 78), .ext 1 (.t 77), none⟩ ::
⟨none, .mstor (.t 66) (.t 78) (.t 75), none⟩ ::
⟨(some 79), .mentr [true, true] true (.agg [(.d (.int .u8 0)), (.d (.int .u32 0)), (.d (.int .u32 0)), (.d (.int .u32 0)), (.d (.int .u32 0)), (.d (.int .u32 0)), (.d (.int .u32 0)), (.d (.int .u32 0)), (.d (.int .u32 0)), (.d (.int .u32 0)), (.d (.int .u64 0)), (.d (.int .u32 0)), (.d (.int .u8 0)), (.d (.int .u32 0)), (.d (.int .u8 0)), (.d (.int .u8 0)), (.d (.int .u32 0)), (.d (.int .u32 0)), (.d (.int .u8 0)), (.d (.int .u8 0)), (.d (.int .u64 0)), (.d (.int .u8 0)), (.d (.int .u32 0)), (.d (.int .u8 0)), (.d (.int .u32 0)), (.d (.int .u32 0)), (.d (.int .u32 0)), (.d (.int .u32 0)), (.d .nils)]) (.t 72) (.t 74), none⟩ ::
⟨(some 80), .ext 1 (.t 79), none⟩ ::
⟨none, .mstor (.t 72) (.t 80) (.t 76), none⟩ :: []) (0 ::
1 ::
3 ::
7 ::
0 ::
16 ::
0 ::
64 ::
192 ::
448 ::
0 ::
1024 ::
0 ::
0 ::
1023 ::
17407 ::
54271 ::
122879 ::
253951 ::
524287 :: []) true)
 (.seq
 (.reg [⟨(some 4), .mv (.k (.d (.bool true))), none⟩] (fullB 1) false)
 .ret)))))
def rv : List RV := [.tmp 4]
theorem c : cK Try.prog Try.f76.ntmps (Try.f76.body.getD .ret) = some s := by kernel_rfl
theorem b : Try.f76.body = some (Try.f76.body.getD .ret) := by kernel_rfl
theorem r : cRV Try.prog Try.f76.results.toList = some rv := by kernel_rfl
theorem ca : Callable Try.prog 76 = true := by kernel_rfl
theorem enter {args : List SV} {F : Hp} {k nk : Nat} {Q : SV → Hp → Prop} (hargs : SV.oks (fun n => decide (n < k)) args = true) (hF : F.ok (fun n => decide (n < k)) = true) (hN : args.length ≤ 81)
    (h : SW Try.prog 81 k s ⟨argE 0 args, F, k⟩ fun e st' => match e with | .normal => Fin k nk rv Q st' | .ret => Fin k nk rv Q st' | _ => False) : SB Try.prog 76 args F k nk Q :=
  SB.of_body Try.func76 b c r ca hargs hF hN h
end tree_Tree_put
namespace tree_Tree_up
abbrev f : Nat := 77
def s : SCo := (.seq
(.reg [⟨(some 2), .box 25 (.t 0), none⟩,
⟨(some 3), .box 33 (.t 1), none⟩,
⟨(some 4), .mv (.k (.d .nilf)), none⟩] (fullB 3) false)
(.seq
(.reg [⟨(some 5), .mkf (.func 139) [] [(.t 2), (.t 3)], none⟩,
⟨(some 4), .mv (.t 5), none⟩] (fullB 2) false)
.ret))
def rv : List RV := [.tmp 4]
theorem c : cK Try.prog Try.f77.ntmps (Try.f77.body.getD .ret) = some s := by kernel_rfl
theorem b : Try.f77.body = some (Try.f77.body.getD .ret) := by kernel_rfl
theorem r : cRV Try.prog Try.f77.results.toList = some rv := by kernel_rfl
theorem ca : Callable Try.prog 77 = true := by kernel_rfl
theorem enter {args : List SV} {F : Hp} {k nk : Nat} {Q : SV → Hp → Prop} (hargs : SV.oks (fun n => decide (n < k)) args = true) (hF : F.ok (fun n => decide (n < k)) = true) (hN : args.length ≤ 6)
    (h : SW Try.prog 6 k s ⟨argE 0 args, F, k⟩ fun e st' => match e with | .normal => Fin k nk rv Q st' | .ret => Fin k nk rv Q st' | _ => False) : SB Try.prog 77 args F k nk Q :=
  SB.of_body Try.func77 b c r ca hargs hF hN h
end tree_Tree_up
namespace tree_Tree_none
abbrev f : Nat := 78
def s : SCo := (.seq
(.reg [⟨(some 2), .mv (.k (.d (.bool false))), none⟩] (fullB 1) false)
(.seq
(.reg [⟨(some 3), .mv (.t 0), none⟩,
⟨(some 4), .eqnil false 0 (.t 3), none⟩,
⟨(some 5), .mv (.t 4), none⟩,
⟨(some 6), .mv (.t 0), some (5, false)⟩,
⟨(some 7), .nilc (.t 6), some (5, false)⟩,
⟨(some 8), .fld 0 (.t 7), some (5, false)⟩,
⟨(some 9), .load none (.t 8), some (5, false)⟩,
⟨(some 10), .eqnil false 1 (.t 9), some (5, false)⟩,
⟨(some 11), .pick (.t 5) (.k (.d (.bool true))) (.t 10), none⟩,
⟨(some 2), .mv (.t 11), none⟩] (fullB 10) false)
.ret))
def rv : List RV := [.tmp 2]
theorem c : cK Try.prog Try.f78.ntmps (Try.f78.body.getD .ret) = some s := by kernel_rfl
theorem b : Try.f78.body = some (Try.f78.body.getD .ret) := by kernel_rfl
theorem r : cRV Try.prog Try.f78.results.toList = some rv := by kernel_rfl
theorem ca : Callable Try.prog 78 = true := by kernel_rfl
theorem enter {args : List SV} {F : Hp} {k nk : Nat} {Q : SV → Hp → Prop} (hargs : SV.oks (fun n => decide (n < k)) args = true) (hF : F.ok (fun n => decide (n < k)) = true) (hN : args.length ≤ 12)
    (h : SW Try.prog 12 k s ⟨argE 0 args, F, k⟩ fun e st' => match e with | .normal => Fin k nk rv Q st' | .ret => Fin k nk rv Q st' | _ => False) : SB Try.prog 78 args F k nk Q :=
  SB.of_body Try.func78 b c r ca hargs hF hN h
end tree_Tree_none
namespace ref04_Covers
abbrev f : Nat := 79
def s : SCo := (.seq
(.reg [⟨(some 2), .box 35 (.t 0), none⟩,
⟨(some 3), .box 33 (.t 1), none⟩,
⟨(some 4), .mv (.k (.d (.bool false))), none⟩] (fullB 3) false)
(.seq
(.reg [⟨(some 5), .load (some 2) (.t 3), none⟩,
⟨(some 6), .call (.k (.fn (.func 140) [] [])) [(.t 5)], none⟩,
⟨(some 7), .mv (.t 6), none⟩,
⟨(some 8), .fld 1 (.t 3), some (7, true)⟩,
⟨(some 9), .load none (.t 8), some (7, true)⟩,
⟨(some 10), .fld 0 (.t 3), some (7, true)⟩,
⟨(some 11), .load none (.t 10), some (7, true)⟩,
⟨(some 12), .idxA 8 1 (.t 2) (.t 11), some (7, true)⟩,
⟨(some 13), .load none (.t 12), some (7, true)⟩,
⟨(some 14), .bin .leq (.t 9) (.t 13), some (7, true)⟩,
⟨(some 15), .pick (.t 7) (.t 14) (.k (.d (.bool false))), none⟩,
⟨(some 4), .mv (.t 15), none⟩] [0,
1,
3,
7,
15,
7,
39,
103,
231,
511,
1023,
2047] true)
.ret))
def rv : List RV := [.tmp 4]
theorem c : cK Try.prog Try.f79.ntmps (Try.f79.body.getD .ret) = some s := by kernel_rfl
theorem b : Try.f79.body = some (Try.f79.body.getD .ret) := by kernel_rfl
theorem r : cRV Try.prog Try.f79.results.toList = some rv := by kernel_rfl
theorem ca : Callable Try.prog 79 = true := by kernel_rfl
theorem enter {args : List SV} {F : Hp} {k nk : Nat} {Q : SV → Hp → Prop} (hargs : SV.oks (fun n => decide (n < k)) args = true) (hF : F.ok (fun n => decide (n < k)) = true) (hN : args.length ≤ 16)
    (h : SW Try.prog 16 k s ⟨argE 0 args, F, k⟩ fun e st' => match e with | .normal => Fin k nk rv Q st' | .ret => Fin k nk rv Q st' | _ => False) : SB Try.prog 79 args F k nk Q :=
  SB.of_body Try.func79 b c r ca hargs hF hN h
end ref04_Covers
namespace ref16_get
abbrev f : Nat := 98
def s : SCo := (.seq
(.reg [⟨(some 4), .box 33 (.t 1), none⟩,
⟨(some 6), .alloc 41 [(.d (.int .u8 0)), (.d (.int .u32 0)), (.d (.int .u8 0)), (.d (.int .u32 0)), (.d (.int .u8 0)), (.d (.int .u32 0)), (.d (.int .u32 0)), (.d (.int .u8 0)), (.d (.int .u8 0)), (.d (.int .u64 0)), (.d (.int .i64 0))], none⟩,
⟨(some 7), .mv (.k (.d (.bool false))), none⟩] (fullB 3) false)
(.seq
(.reg [⟨(some 13), .mv (.t 0), none⟩,
⟨(some 14), .load (some 2) (.t 4), none⟩,
⟨(some 15), .call (.k (.fn (.func 25) [] [])) [(.t 13), (.t 14)], none⟩,
⟨(some 12), .mv (.t 15), none⟩,
⟨(some 16), .ext 0 (.t 12), none⟩,
⟨(some 17), .ext 1 (.t 12), none⟩,
⟨(some 8), .alloc 39 [(.d (.int .u8 0)), (.d (.int .u32 0)), (.d (.int .u32 0)), (.d (.int .u32 0)), (.d (.int .u32 0)), (.d (.int .u32 0)), (.d (.int .u32 0)), (.d (.int .u32 0)), (.d (.int .u32 0)), (.d (.int .u32 0)), (.d (.int .u64 0)), (.d (.int .u32 0)), (.d (.int .u8 0)), (.d (.int .u32 0)), (.d (.int .u8 0)), (.d (.int .u8 0)), (.d (.int .u32 0)), (.d (.int .u32 0)), (.d (.int .u8 0)), (.d (.int .u8 0)), (.d (.int .u64 0)), (.d (.int .u8 0)), (.d (.int .u32 0)), (.d (.int .u8 0)), (.d (.int .u32 0)), (.d (.int .u32 0)), (.d (.int .u32 0)), (.d (.int .u32 0)), (.d .nils)], none⟩,
⟨none, .store 29 (.t 8) (.t 16), none⟩,
⟨(some 9), .mv (.t 17), none⟩] (fullB 9) false)
(.seq
(.seq
 (.reg [⟨(some 18), .mv (.t 9), none⟩,
⟨(some 19), .not (.t 18), none⟩,
⟨(some 20), .mv (.t 19), none⟩,
⟨(some 21), .mv (.t 2), some (20, false)⟩,
⟨(some 22), .bin .eql (.t 21) (.k (.d (.int .i64 0))), some (20, false)⟩,
⟨(some 23), .pick (.t 20) (.k (.d (.bool true))) (.t 22), none⟩] (fullB 6) false)
 (.cond (.t 23)
 (.seq
 (.reg [⟨(some 24), .bld [(.d (.int .u8 0)), (.d (.int .u32 0)), (.d (.int .u8 0)), (.d (.int .u32 0)), (.d (.int .u8 0)), (.d (.int .u32 0)), (.d (.int .u32 0)), (.d (.int .u8 0)), (.d (.int .u8 0)), (.d (.int .u64 0)), (.d (.int .i64 0))] [], none⟩,
⟨none, .store 11 (.t 6) (.t 24), none⟩,
⟨(some 7), .mv (.k (.d (.bool false))), none⟩] (fullB 3) false)
 .ret)
 .skip))
(.seq
 (.seq
 (.reg [⟨(some 25), .fld 14 (.t 8), none⟩,
⟨(some 26), .load none (.t 25), none⟩,
⟨(some 27), .bin .eql (.t 26) (.k (.d (.int .u8 0))), none⟩] (fullB 3) false)
 (.cond (.t 27)
 (.seq
 (.reg [⟨(some 28), .load (some 2) (.t 4), none⟩,
⟨(some 29), .load (some 2) (.t 4), none⟩,
⟨(some 30), .fld 11 (.t 8), none⟩,
⟨(some 31), .load none (.t 30), none⟩,
⟨(some 32), .bld [(.d (.int .u8 0)), (.d (.int .u32 0)), (.d (.int .u8 0)), (.d (.int .u32 0)), (.d (.int .u8 0)), (.d (.int .u32 0)), (.d (.int .u32 0)), (.d (.int .u8 0)), (.d (.int .u8 0)), (.d (.int .u64 0)), (.d (.int .i64 0))] [(0, 2, (.t 28)), (2, 2, (.t 29)), (6, 1, (.t 31)), (7, 1, (.k (.d (.int .u8 7)))), (8, 1, (.k (.d (.int .u8 8)))), (9, 1, (.k (.d (.int .u64 1099511627776))))], none⟩,
⟨(some 33), .fld 12 (.t 8), none⟩,
⟨(some 34), .load (some 2) (.t 33), none⟩,
⟨(some 35), .load (some 2) (.t 4), none⟩,
⟨(some 36), .eqv false [true, true] (.t 34) (.t 35), none⟩,
⟨none, .store 11 (.t 6) (.t 32), none⟩,
⟨(some 7), .mv (.t 36), none⟩] [0,
0,
0,
4,
15,
0,
32,
0,
224,
31,
1023] true)
 .ret)
 .skip))
 (.seq
 (.reg [⟨(some 38), .mv (.t 0), none⟩,
⟨(some 39), .load (some 29) (.t 8), none⟩,
⟨(some 40), .mv (.t 2), none⟩,
⟨(some 41), .call (.k (.fn (.func 111) [] [])) [(.t 38), (.t 39), (.t 40)], none⟩,
⟨(some 37), .mv (.t 41), none⟩,
⟨(some 42), .ext 0 (.t 37), none⟩,
⟨(some 43), .ext 1 (.t 37), none⟩,
⟨(some 10), .alloc 41 [(.d (.int .u8 0)), (.d (.int .u32 0)), (.d (.int .u8 0)), (.d (.int .u32 0)), (.d (.int .u8 0)), (.d (.int .u32 0)), (.d (.int .u32 0)), (.d (.int .u8 0)), (.d (.int .u8 0)), (.d (.int .u64 0)), (.d (.int .i64 0))], none⟩,
⟨none, .store 11 (.t 10) (.t 42), none⟩,
⟨(some 11), .mv (.t 43), none⟩] (fullB 10) false)
 (.seq
 (.seq
 (.reg [⟨(some 44), .mv (.t 11), none⟩,
⟨(some 45), .bin .neq (.t 44) (.k (.d (.int .i64 0))), none⟩] (fullB 2) false)
 (.cond (.t 45)
  (.seq
  (.reg [⟨(some 46), .bld [(.d (.int .u8 0)), (.d (.int .u32 0)), (.d (.int .u8 0)), (.d (.int .u32 0)), (.d (.int .u8 0)), (.d (.int .u32 0)), (.d (.int .u32 0)), (.d (.int .u8 0)), (.d (.int .u8 0)), (.d (.int .u64 0)), (.d (.int .i64 0))] [], none⟩,
⟨none, .store 11 (.t 6) (.t 46), none⟩,
⟨(some 7), .mv (.k (.d (.bool false))), none⟩] (fullB 3) false)
  .ret)
  .skip))
 (.seq
 (.reg (⟨(some 47), .load (some 2) (.t 4), none⟩ ::
⟨(some 48), .fld 12 (.t 8), none⟩ ::
⟨(some 49), .load (some 2) (.t 48), none⟩ ::
⟨(some 50), .fld 15 (.t 8), none⟩ ::
⟨(some 51), .load (some 2) (.t 50), none⟩ ::
⟨(some 52), .fld 17 (.t 8), none⟩ ::
⟨(some 53), .load none (.t 52), none⟩ ::
⟨(some 54), .fld 18 (.t 8), none⟩ ::
⟨(some 55), .load none (.t 54), none⟩ ::
⟨(some 56), .fld 19 (.t 8), none⟩ ::
⟨(some 57), .load none (.t 56), none⟩ ::
⟨(some 58), .fld 20 (.t 8), none⟩ ::
⟨(some 59), .load none (.t 58), none⟩ ::
⟨(some 60), .fld 10 (.t 10), none⟩ ::
⟨(some 61), .load none (.t 60), none⟩ ::
⟨(some 62), .bin .add (.t 61) (.k (.d (.int .i64 1))), none⟩ ::
⟨(some 63), .bld [(.d (.int .u8 0)), (.d (.int .u32 0)), (.d (.int .u8 0)), (.d (.int .u32 0)), (.d (.int .u8 0)), (.d (.int .u32 0)), (.d (.int .u32 0)), (.d (.int .u8 0)), (.d (.int .u8 0)), (.d (.int .u64 0)), (.d (.int .i64 0))] [(0, 2, (.t 47)), (2, 2, (.t 49)), (4, 2, (.t 51)), (6, 1, (.t 53)), (7, 1, (.t 55)), (8, 1, (.t 57)), (9, 1, (.t 59)), (10, 1, (.t 62))], none⟩ ::
⟨none, .store 11 (.t 6) (.t 63), none⟩ ::
⟨(some 7), .mv (.k (.d (.bool true))), none⟩ :: []) (fullB 19) false)
 .ret)))))))
def rv : List RV := [.cell 6 (some 11), .tmp 7]
theorem c : cK Try.prog Try.f98.ntmps (Try.f98.body.getD .ret) = some s := by kernel_rfl
theorem b : Try.f98.body = some (Try.f98.body.getD .ret) := by kernel_rfl
theorem r : cRV Try.prog Try.f98.results.toList = some rv := by kernel_rfl
theorem ca : Callable Try.prog 98 = true := by kernel_rfl
theorem enter {args : List SV} {F : Hp} {k nk : Nat} {Q : SV → Hp → Prop} (hargs : SV.oks (fun n => decide (n < k)) args = true) (hF : F.ok (fun n => decide (n < k)) = true) (hN : args.length ≤ 64)
    (h : SW Try.prog 64 k s ⟨argE 0 args, F, k⟩ fun e st' => match e with | .normal => Fin k nk rv Q st' | .ret => Fin k nk rv Q st' | _ => False) : SB Try.prog 98 args F k nk Q :=
  SB.of_body Try.func98 b c r ca hargs hF hN h
end ref16_get
namespace ref03_Sort
abbrev f : Nat := 99
def s : SCo := (.seq
(.reg [⟨(some 2), .mv (.k (.d .nils)), none⟩] (fullB 1) false)
(.seq
(.reg [⟨(some 3), .mv (.k (.d .nils)), none⟩] (fullB 1) false)
(.seq
(.seq
 (.reg [⟨(some 4), .mv (.k (.d (.int .i64 0))), none⟩] (fullB 1) false)
 (.block 0
 (.loop
 (.seq
 (.seq
  (.reg [⟨(some 5), .mv (.t 4), none⟩,
⟨(some 6), .mv (.t 0), none⟩,
⟨(some 7), .len (.t 6), none⟩,
⟨(some 8), .bin .lss (.t 5) (.t 7), none⟩] (fullB 4) false)
  (.cond (.t 8)
  .skip
  (.exit 0)))
 (.seq
  (.block 1
  (.reg [⟨(some 11), .mv (.t 3), none⟩,
⟨(some 12), .mv (.t 0), none⟩,
⟨(some 13), .mv (.t 4), none⟩,
⟨(some 14), .idxS 2 (.t 12) (.t 13), none⟩,
⟨(some 15), .load (some 2) (.t 14), none⟩,
⟨(some 16), .call (.k (.fn (.func 154) [] [])) [(.t 11), (.t 15)], none⟩,
⟨(some 3), .mv (.t 16), none⟩] (fullB 7) false))
  (.reg [⟨(some 9), .mv (.t 4), none⟩,
⟨(some 10), .bin .add (.t 9) (.k (.d (.int .i64 1))), none⟩,
⟨(some 4), .mv (.t 10), none⟩] (fullB 3) false))))))
(.seq
 (.reg [⟨(some 17), .mv (.t 3), none⟩,
⟨(some 2), .mv (.t 17), none⟩] (fullB 2) false)
 .ret))))
def rv : List RV := [.tmp 2]
theorem c : cK Try.prog Try.f99.ntmps (Try.f99.body.getD .ret) = some s := by kernel_rfl
theorem b : Try.f99.body = some (Try.f99.body.getD .ret) := by kernel_rfl
theorem r : cRV Try.prog Try.f99.results.toList = some rv := by kernel_rfl
theorem ca : Callable Try.prog 99 = true := by kernel_rfl
theorem enter {args : List SV} {F : Hp} {k nk : Nat} {Q : SV → Hp → Prop} (hargs : SV.oks (fun n => decide (n < k)) args = true) (hF : F.ok (fun n => decide (n < k)) = true) (hN : args.length ≤ 18)
    (h : SW Try.prog 18 k s ⟨argE 0 args, F, k⟩ fun e st' => match e with | .normal => Fin k nk rv Q st' | .ret => Fin k nk rv Q st' | _ => False) : SB Try.prog 99 args F k nk Q :=
  SB.of_body Try.func99 b c r ca hargs hF hN h
end ref03_Sort
namespace tree_Tree_All_1
end tree_Tree_All_1
namespace cmp_Or_int
abbrev f : Nat := 102
def s : SCo := (.seq
(.reg [⟨(some 2), .mv (.k (.d (.int .i64 0))), none⟩] (fullB 1) false)
(.seq
(.reg [⟨(some 3), .mv (.k (.d (.int .i64 0))), none⟩] (fullB 1) false)
(.seq
(.seq
 (.reg [⟨(some 6), .mv (.t 0), none⟩,
⟨(some 7), .len (.t 6), none⟩,
⟨(some 8), .mv (.k (.d (.int .i64 0))), none⟩] (fullB 3) false)
 (.block 0
 (.loop
 (.seq
 (.reg [⟨(some 9), .bin .lss (.t 8) (.t 7), none⟩] (fullB 1) false)
 (.seq
  (.cond (.t 9)
  .skip
  (.exit 0))
  (.seq
  (.block 1
  (.seq
  (.reg [⟨(some 10), .idxS 1 (.t 6) (.t 8), none⟩,
⟨(some 11), .load none (.t 10), none⟩,
⟨(some 5), .mv (.t 11), none⟩] (fullB 3) false)
  (.seq
   (.reg [⟨(some 12), .mv (.t 5), none⟩,
⟨(some 13), .mv (.t 3), none⟩,
⟨(some 14), .bin .neq (.t 12) (.t 13), none⟩] (fullB 3) false)
   (.cond (.t 14)
   (.seq
   (.reg [⟨(some 15), .mv (.t 5), none⟩,
⟨(some 2), .mv (.t 15), none⟩] (fullB 2) false)
   .ret)
   .skip))))
  (.reg [⟨(some 16), .bin .add (.t 8) (.k (.d (.int .i64 1))), none⟩,
⟨(some 8), .mv (.t 16), none⟩] (fullB 2) false)))))))
(.seq
 (.reg [⟨(some 17), .mv (.t 3), none⟩,
⟨(some 2), .mv (.t 17), none⟩] (fullB 2) false)
 .ret))))
def rv : List RV := [.tmp 2]
theorem c : cK Try.prog Try.f102.ntmps (Try.f102.body.getD .ret) = some s := by kernel_rfl
theorem b : Try.f102.body = some (Try.f102.body.getD .ret) := by kernel_rfl
theorem r : cRV Try.prog Try.f102.results.toList = some rv := by kernel_rfl
theorem ca : Callable Try.prog 102 = true := by kernel_rfl
theorem enter {args : List SV} {F : Hp} {k nk : Nat} {Q : SV → Hp → Prop} (hargs : SV.oks (fun n => decide (n < k)) args = true) (hF : F.ok (fun n => decide (n < k)) = true) (hN : args.length ≤ 18)
    (h : SW Try.prog 18 k s ⟨argE 0 args, F, k⟩ fun e st' => match e with | .normal => Fin k nk rv Q st' | .ret => Fin k nk rv Q st' | _ => False) : SB Try.prog 102 args F k nk Q :=
  SB.of_body Try.func102 b c r ca hargs hF hN h
end cmp_Or_int
namespace cmp_Compare_int
end cmp_Compare_int
namespace dot_Compare
abbrev f : Nat := 104
def s : SCo := (.seq
(.reg [⟨(some 2), .box 33 (.t 0), none⟩,
⟨(some 3), .box 33 (.t 1), none⟩,
⟨(some 4), .mv (.k (.d (.int .i64 0))), none⟩] (fullB 3) false)
(.seq
(.reg [⟨(some 5), .fld 0 (.t 2), none⟩,
⟨(some 6), .load none (.t 5), none⟩,
⟨(some 7), .fld 0 (.t 3), none⟩,
⟨(some 8), .load none (.t 7), none⟩,
⟨(some 9), .call (.k (.fn (.func 158) [] [])) [(.t 6), (.t 8)], none⟩,
⟨(some 10), .fld 1 (.t 2), none⟩,
⟨(some 11), .load none (.t 10), none⟩,
⟨(some 12), .fld 1 (.t 3), none⟩,
⟨(some 13), .load none (.t 12), none⟩,
⟨(some 14), .call (.k (.fn (.func 159) [] [])) [(.t 11), (.t 13)], none⟩,
⟨(some 15), .bsl 3 1 2 [(.d (.int .i64 0)), (.d (.int .i64 0))] [(0, 1, (.t 9)), (1, 1, (.t 14))], none⟩,
⟨(some 16), .call (.k (.fn (.func 102) [] [])) [(.t 15)], none⟩,
⟨(some 4), .mv (.t 16), none⟩] [0,
1,
0,
4,
15,
0,
32,
0,
128,
511,
1023,
2047,
4095] true)
.ret))
def rv : List RV := [.tmp 4]
theorem c : cK Try.prog Try.f104.ntmps (Try.f104.body.getD .ret) = some s := by kernel_rfl
theorem b : Try.f104.body = some (Try.f104.body.getD .ret) := by kernel_rfl
theorem r : cRV Try.prog Try.f104.results.toList = some rv := by kernel_rfl
theorem ca : Callable Try.prog 104 = true := by kernel_rfl
theorem enter {args : List SV} {F : Hp} {k nk : Nat} {Q : SV → Hp → Prop} (hargs : SV.oks (fun n => decide (n < k)) args = true) (hF : F.ok (fun n => decide (n < k)) = true) (hN : args.length ≤ 17)
    (h : SW Try.prog 17 k s ⟨argE 0 args, F, k⟩ fun e st' => match e with | .normal => Fin k nk rv Q st' | .ret => Fin k nk rv Q st' | _ => False) : SB Try.prog 104 args F k nk Q :=
  SB.of_body Try.func104 b c r ca hargs hF hN h
end dot_Compare
namespace tree_Tree_Why_1
abbrev f : Nat := 105
def s : SCo := (.seq
(.reg [⟨(some 1), .mv (.k (.d (.bool false))), none⟩] (fullB 1) false)
(.seq
(.reg [⟨(some 2), .fld 14 (.t 0), none⟩,
⟨(some 3), .load none (.t 2), none⟩,
⟨(some 4), .bin .neq (.t 3) (.k (.d (.int .u8 1))), none⟩,
⟨(some 1), .mv (.t 4), none⟩] (fullB 4) false)
.ret))
def rv : List RV := [.tmp 1]
theorem c : cK Try.prog Try.f105.ntmps (Try.f105.body.getD .ret) = some s := by kernel_rfl
theorem b : Try.f105.body = some (Try.f105.body.getD .ret) := by kernel_rfl
theorem r : cRV Try.prog Try.f105.results.toList = some rv := by kernel_rfl
theorem ca : Callable Try.prog 105 = true := by kernel_rfl
theorem enter {args : List SV} {F : Hp} {k nk : Nat} {Q : SV → Hp → Prop} (hargs : SV.oks (fun n => decide (n < k)) args = true) (hF : F.ok (fun n => decide (n < k)) = true) (hN : args.length ≤ 5)
    (h : SW Try.prog 5 k s ⟨argE 0 args, F, k⟩ fun e st' => match e with | .normal => Fin k nk rv Q st' | .ret => Fin k nk rv Q st' | _ => False) : SB Try.prog 105 args F k nk Q :=
  SB.of_body Try.func105 b c r ca hargs hF hN h
end tree_Tree_Why_1
namespace tree_Tree_Why_2
abbrev f : Nat := 106
def s : SCo := (.seq
(.reg [⟨(some 4), .mv (.k (.d (.bool false))), none⟩] (fullB 1) false)
(.seq
(.reg (⟨(some 5), .load none (.t 0), none⟩ ::
⟨(some 6), .not (.t 5), none⟩ ::
⟨(some 7), .mv (.t 6), none⟩ ::
⟨(some 8), .fld 2 (.t 1), some (7, false)⟩ ::
⟨(some 9), .load (some 2) (.t 8), some (7, false)⟩ ::
⟨(some 10), .fld 12 (.t 2), some (7, false)⟩ ::
⟨(some 11), .load (some 2) (.t 10), some (7, false)⟩ ::
⟨(some 12), .eqv true [true, true] (.t 9) (.t 11), some (7, false)⟩ ::
⟨(some 13), .pick (.t 7) (.k (.d (.bool true))) (.t 12), none⟩ ::
⟨(some 14), .mv (.t 13), none⟩ ::
⟨(some 15), .load none (.t 3), some (14, false)⟩ ::
⟨(some 16), .nilc (.t 15), some (14, false)⟩ ::
⟨(some 17), .fld 1 (.t 16), some (14, false)⟩ ::
⟨(some 18), .load none (.t 17), some (14, false)⟩ ::
⟨(some 19), .fld 15 (.t 2), some (14, false)⟩ ::
⟨(some 20), .load (some 2) (.t 19), some (14, false)⟩ ::
⟨(some 21), .look [true, true] true (.agg [(.d (.int .u8 0)), (.d (.int .u32 0)), (.d (.int .u32 0)), (.d (.int .u32 0)), (.d (.int .u32 0)), (.d (.int .u32 0)), (.d (.int .u32 0)), (.d (.int .u32 0)), (.d (.int .u32 0)), (.d (.int .u32 0)), (.d (.int .u64 0)), (.d (.int .u32 0)), (.d (.int .u8 0)), (.d (.int .u32 0)), (.d (.int .u8 0)), (.d (.int .u8 0)), (.d (.int .u32 0)), (.d (.int .u32 0)), (.d (.int .u8 0)), (.d (.int .u8 0)), (.d (.int .u64 0)), (.d (.int .u8 0)), (.d (.int .u32 0)), (.d (.int .u8 0)), (.d (.int .u32 0)), (.d (.int .u32 0)), (.d (.int .u32 0)), (.d (.int .u32 0)), (.d .nils)]) (.t 18) (.t 20) false, some (14, false)⟩ ::
⟨(some 22), .load (some 29) (.t 2), some (14, false)⟩ ::
⟨(some 23), .call (.k (.fn (.func 107) [] [])) [(.t 21), (.t 22)], some (14, false)⟩ ::
⟨(some 24), .not (.t 23), some (14, false)⟩ ::
⟨(some 25), .pick (.t 14) (.k (.d (.bool true))) (.t 24), none⟩ ::
⟨(some 4), .mv (.t 25), none⟩ :: []) (0 ::
1 ::
3 ::
7 ::
15 ::
7 ::
39 ::
127 ::
255 ::
511 ::
1023 ::
2047 ::
4095 ::
8191 ::
1023 ::
17407 ::
65535 ::
1023 ::
262143 ::
524287 ::
1048575 ::
2097151 :: []) true)
.ret))
def rv : List RV := [.tmp 4]
theorem c : cK Try.prog Try.f106.ntmps (Try.f106.body.getD .ret) = some s := by kernel_rfl
theorem b : Try.f106.body = some (Try.f106.body.getD .ret) := by kernel_rfl
theorem r : cRV Try.prog Try.f106.results.toList = some rv := by kernel_rfl
theorem ca : Callable Try.prog 106 = true := by kernel_rfl
theorem enter {args : List SV} {F : Hp} {k nk : Nat} {Q : SV → Hp → Prop} (hargs : SV.oks (fun n => decide (n < k)) args = true) (hF : F.ok (fun n => decide (n < k)) = true) (hN : args.length ≤ 26)
    (h : SW Try.prog 26 k s ⟨argE 0 args, F, k⟩ fun e st' => match e with | .normal => Fin k nk rv Q st' | .ret => Fin k nk rv Q st' | _ => False) : SB Try.prog 106 args F k nk Q :=
  SB.of_body Try.func106 b c r ca hargs hF hN h
end tree_Tree_Why_2
namespace order_Before
abbrev f : Nat := 107
def s : SCo := (.seq
(.reg [⟨(some 2), .box 39 (.t 0), none⟩,
⟨(some 3), .box 39 (.t 1), none⟩,
⟨(some 4), .mv (.k (.d (.bool false))), none⟩] (fullB 3) false)
(.seq
(.reg [⟨(some 5), .fld 2 (.t 3), none⟩,
⟨(some 6), .load (some 8) (.t 5), none⟩,
⟨(some 7), .fld 0 (.t 2), none⟩,
⟨(some 8), .load (some 2) (.t 7), none⟩,
⟨(some 9), .call (.k (.fn (.func 160) [] [])) [(.t 6), (.t 8)], none⟩,
⟨(some 4), .mv (.t 9), none⟩] (fullB 6) false)
.ret))
def rv : List RV := [.tmp 4]
theorem c : cK Try.prog Try.f107.ntmps (Try.f107.body.getD .ret) = some s := by kernel_rfl
theorem b : Try.f107.body = some (Try.f107.body.getD .ret) := by kernel_rfl
theorem r : cRV Try.prog Try.f107.results.toList = some rv := by kernel_rfl
theorem ca : Callable Try.prog 107 = true := by kernel_rfl
theorem enter {args : List SV} {F : Hp} {k nk : Nat} {Q : SV → Hp → Prop} (hargs : SV.oks (fun n => decide (n < k)) args = true) (hF : F.ok (fun n => decide (n < k)) = true) (hN : args.length ≤ 10)
    (h : SW Try.prog 10 k s ⟨argE 0 args, F, k⟩ fun e st' => match e with | .normal => Fin k nk rv Q st' | .ret => Fin k nk rv Q st' | _ => False) : SB Try.prog 107 args F k nk Q :=
  SB.of_body Try.func107 b c r ca hargs hF hN h
end order_Before
namespace tree_Tree_Why_3
abbrev f : Nat := 108
def s : SCo := (.seq
(.reg [⟨(some 2), .mv (.k (.d (.bool false))), none⟩] (fullB 1) false)
(.seq
(.reg [⟨(some 3), .fld 6 (.t 0), none⟩,
⟨(some 4), .load none (.t 3), none⟩,
⟨(some 5), .fld 11 (.t 1), none⟩,
⟨(some 6), .load none (.t 5), none⟩,
⟨(some 7), .bin .neq (.t 4) (.t 6), none⟩,
⟨(some 2), .mv (.t 7), none⟩] (fullB 6) false)
.ret))
def rv : List RV := [.tmp 2]
theorem c : cK Try.prog Try.f108.ntmps (Try.f108.body.getD .ret) = some s := by kernel_rfl
theorem b : Try.f108.body = some (Try.f108.body.getD .ret) := by kernel_rfl
theorem r : cRV Try.prog Try.f108.results.toList = some rv := by kernel_rfl
theorem ca : Callable Try.prog 108 = true := by kernel_rfl
theorem enter {args : List SV} {F : Hp} {k nk : Nat} {Q : SV → Hp → Prop} (hargs : SV.oks (fun n => decide (n < k)) args = true) (hF : F.ok (fun n => decide (n < k)) = true) (hN : args.length ≤ 8)
    (h : SW Try.prog 8 k s ⟨argE 0 args, F, k⟩ fun e st' => match e with | .normal => Fin k nk rv Q st' | .ret => Fin k nk rv Q st' | _ => False) : SB Try.prog 108 args F k nk Q :=
  SB.of_body Try.func108 b c r ca hargs hF hN h
end tree_Tree_Why_3
namespace tree_Tree_Why_4
abbrev f : Nat := 109
def s : SCo := (.seq
(.reg [⟨(some 1), .mv (.k (.d (.bool false))), none⟩] (fullB 1) false)
(.seq
(.reg [⟨(some 2), .fld 7 (.t 0), none⟩,
⟨(some 3), .load none (.t 2), none⟩,
⟨(some 4), .bin .and (.t 3) (.k (.d (.int .u8 1))), none⟩,
⟨(some 5), .bin .eql (.t 4) (.k (.d (.int .u8 0))), none⟩,
⟨(some 1), .mv (.t 5), none⟩] (fullB 5) false)
.ret))
def rv : List RV := [.tmp 1]
theorem c : cK Try.prog Try.f109.ntmps (Try.f109.body.getD .ret) = some s := by kernel_rfl
theorem b : Try.f109.body = some (Try.f109.body.getD .ret) := by kernel_rfl
theorem r : cRV Try.prog Try.f109.results.toList = some rv := by kernel_rfl
theorem ca : Callable Try.prog 109 = true := by kernel_rfl
theorem enter {args : List SV} {F : Hp} {k nk : Nat} {Q : SV → Hp → Prop} (hargs : SV.oks (fun n => decide (n < k)) args = true) (hF : F.ok (fun n => decide (n < k)) = true) (hN : args.length ≤ 6)
    (h : SW Try.prog 6 k s ⟨argE 0 args, F, k⟩ fun e st' => match e with | .normal => Fin k nk rv Q st' | .ret => Fin k nk rv Q st' | _ => False) : SB Try.prog 109 args F k nk Q :=
  SB.of_body Try.func109 b c r ca hargs hF hN h
end tree_Tree_Why_4
namespace tree_Tree_Why_5
abbrev f : Nat := 110
def s : SCo := (.seq
(.reg [⟨(some 2), .mv (.k (.d (.bool false))), none⟩] (fullB 1) false)
(.seq
(.reg (⟨(some 3), .fld 18 (.t 0), none⟩ ::
⟨(some 4), .load none (.t 3), none⟩ ::
⟨(some 5), .bin .eql (.t 4) (.k (.d (.int .u8 0))), none⟩ ::
⟨(some 6), .mv (.t 5), none⟩ ::
⟨(some 7), .fld 18 (.t 0), some (6, false)⟩ ::
⟨(some 8), .load none (.t 7), some (6, false)⟩ ::
⟨(some 9), .fld 7 (.t 1), some (6, false)⟩ ::
⟨(some 10), .load none (.t 9), some (6, false)⟩ ::
⟨(some 11), .bin .andNot (.t 8) (.t 10), some (6, false)⟩ ::
⟨(some 12), .bin .neq (.t 11) (.k (.d (.int .u8 0))), some (6, false)⟩ ::
⟨(some 13), .pick (.t 6) (.k (.d (.bool true))) (.t 12), none⟩ ::
⟨(some 14), .mv (.t 13), none⟩ ::
⟨(some 15), .fld 17 (.t 0), some (14, false)⟩ ::
⟨(some 16), .load none (.t 15), some (14, false)⟩ ::
⟨(some 17), .bin .eql (.t 16) (.k (.d (.int .u32 0))), some (14, false)⟩ ::
⟨(some 18), .pick (.t 14) (.k (.d (.bool true))) (.t 17), none⟩ ::
⟨(some 19), .mv (.t 18), none⟩ ::
⟨(some 20), .fld 19 (.t 0), some (19, false)⟩ ::
⟨(some 21), .load none (.t 20), some (19, false)⟩ ::
⟨(some 22), .fld 8 (.t 1), some (19, false)⟩ ::
⟨(some 23), .load none (.t 22), some (19, false)⟩ ::
⟨(some 24), .bin .geq (.t 21) (.t 23), some (19, false)⟩ ::
⟨(some 25), .pick (.t 19) (.k (.d (.bool true))) (.t 24), none⟩ ::
⟨(some 26), .mv (.t 25), none⟩ ::
⟨(some 27), .fld 20 (.t 0), some (26, false)⟩ ::
⟨(some 28), .load none (.t 27), some (26, false)⟩ ::
⟨(some 29), .fld 9 (.t 1), some (26, false)⟩ ::
⟨(some 30), .load none (.t 29), some (26, false)⟩ ::
⟨(some 31), .bin .gtr (.t 28) (.t 30), some (26, false)⟩ ::
⟨(some 32), .pick (.t 26) (.k (.d (.bool true))) (.t 31), none⟩ ::
⟨(some 2), .mv (.t 32), none⟩ :: []) (fullB 31) false)
.ret))
def rv : List RV := [.tmp 2]
theorem c : cK Try.prog Try.f110.ntmps (Try.f110.body.getD .ret) = some s := by kernel_rfl
theorem b : Try.f110.body = some (Try.f110.body.getD .ret) := by kernel_rfl
theorem r : cRV Try.prog Try.f110.results.toList = some rv := by kernel_rfl
theorem ca : Callable Try.prog 110 = true := by kernel_rfl
theorem enter {args : List SV} {F : Hp} {k nk : Nat} {Q : SV → Hp → Prop} (hargs : SV.oks (fun n => decide (n < k)) args = true) (hF : F.ok (fun n => decide (n < k)) = true) (hN : args.length ≤ 33)
    (h : SW Try.prog 33 k s ⟨argE 0 args, F, k⟩ fun e st' => match e with | .normal => Fin k nk rv Q st' | .ret => Fin k nk rv Q st' | _ => False) : SB Try.prog 110 args F k nk Q :=
  SB.of_body Try.func110 b c r ca hargs hF hN h
end tree_Tree_Why_5
namespace ref16_why
abbrev f : Nat := 111
def s : SCo := (.seq
(.reg [⟨(some 4), .box 39 (.t 1), none⟩,
⟨(some 6), .alloc 41 [(.d (.int .u8 0)), (.d (.int .u32 0)), (.d (.int .u8 0)), (.d (.int .u32 0)), (.d (.int .u8 0)), (.d (.int .u32 0)), (.d (.int .u32 0)), (.d (.int .u8 0)), (.d (.int .u8 0)), (.d (.int .u64 0)), (.d (.int .i64 0))], none⟩,
⟨(some 7), .mv (.k (.d (.int .i64 0))), none⟩] (fullB 3) false)
(.seq
(.seq
(.reg [⟨(some 12), .fld 14 (.t 4), none⟩,
⟨(some 13), .load none (.t 12), none⟩,
⟨(some 14), .bin .neq (.t 13) (.k (.d (.int .u8 1))), none⟩] (fullB 3) false)
(.cond (.t 14)
 (.seq
 (.reg [⟨(some 15), .bld [(.d (.int .u8 0)), (.d (.int .u32 0)), (.d (.int .u8 0)), (.d (.int .u32 0)), (.d (.int .u8 0)), (.d (.int .u32 0)), (.d (.int .u32 0)), (.d (.int .u8 0)), (.d (.int .u8 0)), (.d (.int .u64 0)), (.d (.int .i64 0))] [], none⟩,
⟨none, .store 11 (.t 6) (.t 15), none⟩,
⟨(some 7), .mv (.k (.d (.int .i64 2))), none⟩] (fullB 3) false)
 .ret)
 .skip))
(.seq
(.reg [⟨(some 17), .mv (.t 0), none⟩,
⟨(some 18), .fld 15 (.t 4), none⟩,
⟨(some 19), .load (some 2) (.t 18), none⟩,
⟨(some 20), .mv (.t 2), none⟩,
⟨(some 21), .bin .sub (.t 20) (.k (.d (.int .i64 1))), none⟩,
⟨(some 22), .call (.k (.fn (.func 98) [] [])) [(.t 17), (.t 19), (.t 21)], none⟩,
⟨(some 16), .mv (.t 22), none⟩,
⟨(some 23), .ext 0 (.t 16), none⟩,
⟨(some 24), .ext 1 (.t 16), none⟩,
⟨(some 8), .alloc 41 [(.d (.int .u8 0)), (.d (.int .u32 0)), (.d (.int .u8 0)), (.d (.int .u32 0)), (.d (.int .u8 0)), (.d (.int .u32 0)), (.d (.int .u32 0)), (.d (.int .u8 0)), (.d (.int .u8 0)), (.d (.int .u64 0)), (.d (.int .i64 0))], none⟩,
⟨none, .store 11 (.t 8) (.t 23), none⟩,
⟨(some 9), .mv (.t 24), none⟩] (fullB 12) false)
(.seq
 (.reg [⟨(some 26), .mv (.t 0), none⟩,
⟨(some 27), .fld 15 (.t 4), none⟩,
⟨(some 28), .load (some 2) (.t 27), none⟩,
⟨(some 29), .call (.k (.fn (.func 25) [] [])) [(.t 26), (.t 28)], none⟩,
⟨(some 25), .mv (.t 29), none⟩,
⟨(some 30), .ext 0 (.t 25), none⟩,
⟨(some 31), .ext 1 (.t 25), none⟩,
⟨(some 10), .alloc 39 [(.d (.int .u8 0)), (.d (.int .u32 0)), (.d (.int .u32 0)), (.d (.int .u32 0)), (.d (.int .u32 0)), (.d (.int .u32 0)), (.d (.int .u32 0)), (.d (.int .u32 0)), (.d (.int .u32 0)), (.d (.int .u32 0)), (.d (.int .u64 0)), (.d (.int .u32 0)), (.d (.int .u8 0)), (.d (.int .u32 0)), (.d (.int .u8 0)), (.d (.int .u8 0)), (.d (.int .u32 0)), (.d (.int .u32 0)), (.d (.int .u8 0)), (.d (.int .u8 0)), (.d (.int .u64 0)), (.d (.int .u8 0)), (.d (.int .u32 0)), (.d (.int .u8 0)), (.d (.int .u32 0)), (.d (.int .u32 0)), (.d (.int .u32 0)), (.d (.int .u32 0)), (.d .nils)], none⟩,
⟨none, .store 29 (.t 10) (.t 30), none⟩,
⟨(some 11), .mv (.t 31), none⟩] (fullB 10) false)
 (.seq
 (.seq
 (.reg [⟨(some 32), .mv (.t 9), none⟩,
⟨(some 33), .not (.t 32), none⟩,
⟨(some 34), .mv (.t 33), none⟩,
⟨(some 35), .fld 2 (.t 8), some (34, false)⟩,
⟨(some 36), .load (some 2) (.t 35), some (34, false)⟩,
⟨(some 37), .fld 12 (.t 4), some (34, false)⟩,
⟨(some 38), .load (some 2) (.t 37), some (34, false)⟩,
⟨(some 39), .eqv true [true, true] (.t 36) (.t 38), some (34, false)⟩,
⟨(some 40), .pick (.t 34) (.k (.d (.bool true))) (.t 39), none⟩,
⟨(some 41), .mv (.t 40), none⟩,
⟨(some 42), .load (some 29) (.t 10), some (41, false)⟩,
⟨(some 43), .load (some 29) (.t 4), some (41, false)⟩,
⟨(some 44), .call (.k (.fn (.func 26) [] [])) [(.t 42), (.t 43)], some (41, false)⟩,
⟨(some 45), .not (.t 44), some (41, false)⟩,
⟨(some 46), .pick (.t 41) (.k (.d (.bool true))) (.t 45), none⟩] (fullB 15) false)
 (.cond (.t 46)
 (.seq
  (.reg [⟨(some 47), .load (some 11) (.t 8), none⟩,
⟨none, .store 11 (.t 6) (.t 47), none⟩,
⟨(some 7), .mv (.k (.d (.int .i64 272))), none⟩] (fullB 3) false)
  .ret)
 .skip))
 (.seq
 (.seq
 (.reg [⟨(some 48), .fld 6 (.t 8), none⟩,
⟨(some 49), .load none (.t 48), none⟩,
⟨(some 50), .fld 11 (.t 4), none⟩,
⟨(some 51), .load none (.t 50), none⟩,
⟨(some 52), .bin .neq (.t 49) (.t 51), none⟩] (fullB 5) false)
 (.cond (.t 52)
  (.seq
  (.reg [⟨(some 53), .load (some 11) (.t 8), none⟩,
⟨none, .store 11 (.t 6) (.t 53), none⟩,
⟨(some 7), .mv (.k (.d (.int .i64 273))), none⟩] (fullB 3) false)
  .ret)
  .skip))
 (.seq
 (.seq
  (.reg [⟨(some 54), .fld 7 (.t 8), none⟩,
⟨(some 55), .load none (.t 54), none⟩,
⟨(some 56), .call (.k (.fn (.func 161) [] [])) [(.t 55), (.k (.d (.int .u8 1)))], none⟩,
⟨(some 57), .not (.t 56), none⟩] (fullB 4) false)
  (.cond (.t 57)
  (.seq
  (.reg [⟨(some 58), .load (some 11) (.t 8), none⟩,
⟨none, .store 11 (.t 6) (.t 58), none⟩,
⟨(some 7), .mv (.k (.d (.int .i64 274))), none⟩] (fullB 3) false)
  .ret)
  .skip))
 (.seq
  (.seq
  (.reg (⟨(some 59), .fld 18 (.t 4), none⟩ ::
⟨(some 60), .load none (.t 59), none⟩ ::
⟨(some 61), .fld 7 (.t 8), none⟩ ::
⟨(some 62), .load none (.t 61), none⟩ ::
⟨(some 63), .call (.k (.fn (.func 162) [] [])) [(.t 60), (.t 62)], none⟩ ::
⟨(some 64), .not (.t 63), none⟩ ::
⟨(some 65), .mv (.t 64), none⟩ ::
⟨(some 66), .fld 17 (.t 4), some (65, false)⟩ ::
⟨(some 67), .load none (.t 66), some (65, false)⟩ ::
⟨(some 68), .bin .eql (.t 67) (.k (.d (.int .u32 0))), some (65, false)⟩ ::
⟨(some 69), .pick (.t 65) (.k (.d (.bool true))) (.t 68), none⟩ ::
⟨(some 70), .mv (.t 69), none⟩ ::
⟨(some 71), .fld 19 (.t 4), some (70, false)⟩ ::
⟨(some 72), .load none (.t 71), some (70, false)⟩ ::
⟨(some 73), .fld 8 (.t 8), some (70, false)⟩ ::
⟨(some 74), .load none (.t 73), some (70, false)⟩ ::
⟨(some 75), .bin .geq (.t 72) (.t 74), some (70, false)⟩ ::
⟨(some 76), .pick (.t 70) (.k (.d (.bool true))) (.t 75), none⟩ ::
⟨(some 77), .mv (.t 76), none⟩ ::
⟨(some 78), .fld 20 (.t 4), some (77, false)⟩ ::
⟨(some 79), .load none (.t 78), some (77, false)⟩ ::
⟨(some 80), .fld 9 (.t 8), some (77, false)⟩ ::
⟨(some 81), .load none (.t 80), some (77, false)⟩ ::
⟨(some 82), .bin .gtr (.t 79) (.t 81), some (77, false)⟩ ::
⟨(some 83), .pick (.t 77) (.k (.d (.bool true))) (.t 82), none⟩ :: []) (fullB 25) false)
  (.cond (.t 83)
  (.seq
  (.reg [⟨(some 84), .load (some 11) (.t 8), none⟩,
⟨none, .store 11 (.t 6) (.t 84), none⟩,
⟨(some 7), .mv (.k (.d (.int .i64 275))), none⟩] (fullB 3) false)
  .ret)
  .skip))
  (.seq
  (.reg [⟨(some 85), .load (some 11) (.t 8), none⟩,
⟨none, .store 11 (.t 6) (.t 85), none⟩,
⟨(some 7), .mv (.k (.d (.int .i64 0))), none⟩] (fullB 3) false)
  .ret)))))))))
def rv : List RV := [.cell 6 (some 11), .tmp 7]
theorem c : cK Try.prog Try.f111.ntmps (Try.f111.body.getD .ret) = some s := by kernel_rfl
theorem b : Try.f111.body = some (Try.f111.body.getD .ret) := by kernel_rfl
theorem r : cRV Try.prog Try.f111.results.toList = some rv := by kernel_rfl
theorem ca : Callable Try.prog 111 = true := by kernel_rfl
theorem enter {args : List SV} {F : Hp} {k nk : Nat} {Q : SV → Hp → Prop} (hargs : SV.oks (fun n => decide (n < k)) args = true) (hF : F.ok (fun n => decide (n < k)) = true) (hN : args.length ≤ 86)
    (h : SW Try.prog 86 k s ⟨argE 0 args, F, k⟩ fun e st' => match e with | .normal => Fin k nk rv Q st' | .ret => Fin k nk rv Q st' | _ => False) : SB Try.prog 111 args F k nk Q :=
  SB.of_body Try.func111 b c r ca hargs hF hN h
end ref16_why
namespace slices_IndexFunc_Lapi_Op_api_Op
abbrev f : Nat := 138
def s : SCo := (.seq
(.reg [⟨(some 4), .mv (.k (.d (.int .i64 0))), none⟩] (fullB 1) false)
(.seq
(.seq
(.reg [⟨(some 6), .mv (.t 0), none⟩,
⟨(some 7), .len (.t 6), none⟩,
⟨(some 8), .mv (.k (.d (.int .i64 0))), none⟩] (fullB 3) false)
(.block 0
 (.loop
 (.seq
 (.reg [⟨(some 9), .bin .lss (.t 8) (.t 7), none⟩] (fullB 1) false)
 (.seq
 (.cond (.t 9)
  .skip
  (.exit 0))
 (.seq
  (.block 1
  (.seq
  (.reg [⟨(some 10), .mv (.t 8), none⟩,
⟨(some 5), .mv (.t 10), none⟩] (fullB 2) false)
  (.seq
  (.reg [⟨(some 11), .mv (.t 1), none⟩,
⟨(some 12), .mv (.t 0), none⟩,
⟨(some 13), .mv (.t 5), none⟩,
⟨(some 14), .idxS 29 (.t 12) (.t 13), none⟩,
⟨(some 15), .load (some 29) (.t 14), none⟩,
⟨(some 16), .call (.t 11) [(.t 15)], none⟩] (fullB 6) false)
  (.cond (.t 16)
   (.seq
   (.reg [⟨(some 17), .mv (.t 5), none⟩,
⟨(some 4), .mv (.t 17), none⟩] (fullB 2) false)
   .ret)
   .skip))))
  (.reg [⟨(some 18), .bin .add (.t 8) (.k (.d (.int .i64 1))), none⟩,
⟨(some 8), .mv (.t 18), none⟩] (fullB 2) false)))))))
(.seq
(.reg [⟨(some 4), .mv (.k (.d (.int .i64 (-1)))), none⟩] (fullB 1) false)
.ret)))
def rv : List RV := [.tmp 4]
theorem c : cK Try.prog Try.f138.ntmps (Try.f138.body.getD .ret) = some s := by kernel_rfl
theorem b : Try.f138.body = some (Try.f138.body.getD .ret) := by kernel_rfl
theorem r : cRV Try.prog Try.f138.results.toList = some rv := by kernel_rfl
theorem ca : Callable Try.prog 138 = true := by kernel_rfl
theorem enter {args : List SV} {F : Hp} {k nk : Nat} {Q : SV → Hp → Prop} (hargs : SV.oks (fun n => decide (n < k)) args = true) (hF : F.ok (fun n => decide (n < k)) = true) (hN : args.length ≤ 19)
    (h : SW Try.prog 19 k s ⟨argE 0 args, F, k⟩ fun e st' => match e with | .normal => Fin k nk rv Q st' | .ret => Fin k nk rv Q st' | _ => False) : SB Try.prog 138 args F k nk Q :=
  SB.of_body Try.func138 b c r ca hargs hF hN h
end slices_IndexFunc_Lapi_Op_api_Op
namespace tree_Tree_up_1
abbrev f : Nat := 139
def s : SCo := (.seq
(.reg [⟨(some 7), .load none (.t 1), none⟩,
⟨(some 8), .nilc (.t 7), none⟩,
⟨(some 9), .fld 0 (.t 8), none⟩,
⟨(some 10), .load none (.t 9), none⟩,
⟨(some 11), .load (some 2) (.t 2), none⟩,
⟨(some 12), .look [true, true] true (.agg [(.d (.int .u8 0)), (.d (.int .u32 0)), (.d (.int .u8 0)), (.d (.int .u32 0)), (.d (.int .u8 0)), (.d (.int .u32 0)), (.d (.int .u32 0)), (.d (.int .u8 0)), (.d (.int .u8 0)), (.d (.int .u64 0)), (.d (.int .i64 0))]) (.t 10) (.t 11) true, none⟩,
⟨(some 6), .mv (.t 12), none⟩,
⟨(some 13), .ext 0 (.t 6), none⟩,
⟨(some 14), .ext 1 (.t 6), none⟩,
⟨(some 4), .alloc 41 [(.d (.int .u8 0)), (.d (.int .u32 0)), (.d (.int .u8 0)), (.d (.int .u32 0)), (.d (.int .u8 0)), (.d (.int .u32 0)), (.d (.int .u32 0)), (.d (.int .u8 0)), (.d (.int .u8 0)), (.d (.int .u64 0)), (.d (.int .i64 0))], none⟩,
⟨none, .store 11 (.t 4) (.t 13), none⟩,
⟨(some 5), .mv (.t 14), none⟩] [0,
1,
3,
7,
0,
31,
63,
127,
127,
0,
767,
2047] true)
(.block 0
(.loop
(.seq
 (.seq
 (.reg [⟨(some 15), .mv (.t 5), none⟩,
⟨(some 16), .mv (.t 15), none⟩,
⟨(some 17), .mv (.t 0), some (16, true)⟩,
⟨(some 18), .load (some 11) (.t 4), some (16, true)⟩,
⟨(some 19), .call (.t 17) [(.t 18)], some (16, true)⟩,
⟨(some 20), .pick (.t 16) (.t 19) (.k (.d (.bool false))), none⟩,
⟨(some 21), .mv (.t 20), none⟩,
⟨(some 22), .fld 10 (.t 4), some (21, true)⟩,
⟨(some 23), .load none (.t 22), some (21, true)⟩,
⟨(some 24), .bin .gtr (.t 23) (.k (.d (.int .i64 0))), some (21, true)⟩,
⟨(some 25), .pick (.t 21) (.t 24) (.k (.d (.bool false))), none⟩] (fullB 11) false)
 (.cond (.t 25)
 .skip
 (.exit 0)))
 (.seq
 (.block 1
 (.reg [⟨(some 27), .load none (.t 1), none⟩,
⟨(some 28), .nilc (.t 27), none⟩,
⟨(some 29), .fld 0 (.t 28), none⟩,
⟨(some 30), .load none (.t 29), none⟩,
⟨(some 31), .fld 4 (.t 4), none⟩,
⟨(some 32), .load (some 2) (.t 31), none⟩,
⟨(some 33), .look [true, true] true (.agg [(.d (.int .u8 0)), (.d (.int .u32 0)), (.d (.int .u8 0)), (.d (.int .u32 0)), (.d (.int .u8 0)), (.d (.int .u32 0)), (.d (.int .u32 0)), (.d (.int .u8 0)), (.d (.int .u8 0)), (.d (.int .u64 0)), (.d (.int .i64 0))]) (.t 30) (.t 32) true, none⟩,
⟨(some 26), .mv (.t 33), none⟩,
⟨(some 34), .ext 0 (.t 26), none⟩,
⟨(some 35), .ext 1 (.t 26), none⟩,
⟨none, .store 11 (.t 4) (.t 34), none⟩,
⟨(some 5), .mv (.t 35), none⟩] [0,
1,
3,
7,
0,
16,
63,
127,
255,
255,
511,
2047] true))
 (.seq
 (.reg [⟨(some 36), .load (some 11) (.t 4), none⟩] (fullB 1) false)
 (.reg [⟨(some 4), .alloc 41 [(.d (.int .u8 0)), (.d (.int .u32 0)), (.d (.int .u8 0)), (.d (.int .u32 0)), (.d (.int .u8 0)), (.d (.int .u32 0)), (.d (.int .u32 0)), (.d (.int .u8 0)), (.d (.int .u8 0)), (.d (.int .u64 0)), (.d (.int .i64 0))], none⟩,
⟨none, .store 11 (.t 4) (.t 36), none⟩] (fullB 2) false)))))))
def rv : List RV := []
theorem c : cK Try.prog Try.f139.ntmps (Try.f139.body.getD .ret) = some s := by kernel_rfl
theorem b : Try.f139.body = some (Try.f139.body.getD .ret) := by kernel_rfl
theorem r : cRV Try.prog Try.f139.results.toList = some rv := by kernel_rfl
theorem ca : Callable Try.prog 139 = true := by kernel_rfl
theorem enter {args : List SV} {F : Hp} {k nk : Nat} {Q : SV → Hp → Prop} (hargs : SV.oks (fun n => decide (n < k)) args = true) (hF : F.ok (fun n => decide (n < k)) = true) (hN : args.length ≤ 37)
    (h : SW Try.prog 37 k s ⟨argE 0 args, F, k⟩ fun e st' => match e with | .normal => Fin k nk rv Q st' | .ret => Fin k nk rv Q st' | _ => False) : SB Try.prog 139 args F k nk Q :=
  SB.of_body Try.func139 b c r ca hargs hF hN h
end tree_Tree_up_1
namespace ref03_May
abbrev f : Nat := 140
def s : SCo := (.seq
(.reg [⟨(some 1), .box 33 (.t 0), none⟩,
⟨(some 2), .mv (.k (.d (.bool false))), none⟩] (fullB 2) false)
(.seq
(.reg [⟨(some 3), .fld 0 (.t 1), none⟩,
⟨(some 4), .load none (.t 3), none⟩,
⟨(some 5), .bin .leq (.t 4) (.k (.d (.int .u8 7))), none⟩,
⟨(some 6), .mv (.t 5), none⟩,
⟨(some 7), .fld 1 (.t 1), some (6, true)⟩,
⟨(some 8), .load none (.t 7), some (6, true)⟩,
⟨(some 9), .bin .geq (.t 8) (.k (.d (.int .u32 1))), some (6, true)⟩,
⟨(some 10), .pick (.t 6) (.t 9) (.k (.d (.bool false))), none⟩,
⟨(some 2), .mv (.t 10), none⟩] (fullB 9) false)
.ret))
def rv : List RV := [.tmp 2]
theorem c : cK Try.prog Try.f140.ntmps (Try.f140.body.getD .ret) = some s := by kernel_rfl
theorem b : Try.f140.body = some (Try.f140.body.getD .ret) := by kernel_rfl
theorem r : cRV Try.prog Try.f140.results.toList = some rv := by kernel_rfl
theorem ca : Callable Try.prog 140 = true := by kernel_rfl
theorem enter {args : List SV} {F : Hp} {k nk : Nat} {Q : SV → Hp → Prop} (hargs : SV.oks (fun n => decide (n < k)) args = true) (hF : F.ok (fun n => decide (n < k)) = true) (hN : args.length ≤ 11)
    (h : SW Try.prog 11 k s ⟨argE 0 args, F, k⟩ fun e st' => match e with | .normal => Fin k nk rv Q st' | .ret => Fin k nk rv Q st' | _ => False) : SB Try.prog 140 args F k nk Q :=
  SB.of_body Try.func140 b c r ca hargs hF hN h
end ref03_May
namespace ref03_Compare
abbrev f : Nat := 148
def s : SCo := (.seq
(.reg [⟨(some 2), .box 33 (.t 0), none⟩,
⟨(some 3), .box 33 (.t 1), none⟩,
⟨(some 4), .mv (.k (.d (.int .i64 0))), none⟩] (fullB 3) false)
(.seq
(.reg (⟨(some 7), .fld 0 (.t 2), none⟩ ::
⟨(some 8), .load none (.t 7), none⟩ ::
⟨(some 9), .conv .i64 (.t 8), none⟩ ::
⟨(some 10), .bin .mul (.t 9) (.k (.d (.int .i64 8589934592))), none⟩ ::
⟨(some 11), .fld 1 (.t 2), none⟩ ::
⟨(some 12), .load none (.t 11), none⟩ ::
⟨(some 13), .conv .i64 (.t 12), none⟩ ::
⟨(some 14), .bin .add (.t 10) (.t 13), none⟩ ::
⟨(some 15), .fld 0 (.t 3), none⟩ ::
⟨(some 16), .load none (.t 15), none⟩ ::
⟨(some 17), .conv .i64 (.t 16), none⟩ ::
⟨(some 18), .bin .mul (.t 17) (.k (.d (.int .i64 8589934592))), none⟩ ::
⟨(some 19), .fld 1 (.t 3), none⟩ ::
⟨(some 20), .load none (.t 19), none⟩ ::
⟨(some 21), .conv .i64 (.t 20), none⟩ ::
⟨(some 22), .bin .add (.t 18) (.t 21), none⟩ ::
⟨(some 5), .mv (.t 14), none⟩ ::
⟨(some 6), .mv (.t 22), none⟩ :: []) (0 ::
1 ::
3 ::
7 ::
0 ::
16 ::
48 ::
127 ::
0 ::
256 ::
768 ::
1792 ::
0 ::
4096 ::
12288 ::
32512 ::
255 ::
131071 :: []) true)
(.seq
(.seq
 (.reg [⟨(some 23), .mv (.t 5), none⟩,
⟨(some 24), .mv (.t 6), none⟩,
⟨(some 25), .bin .lss (.t 23) (.t 24), none⟩] (fullB 3) false)
 (.cond (.t 25)
 (.seq
 (.reg [⟨(some 4), .mv (.k (.d (.int .i64 (-1)))), none⟩] (fullB 1) false)
 .ret)
 .skip))
(.seq
 (.seq
 (.reg [⟨(some 26), .mv (.t 5), none⟩,
⟨(some 27), .mv (.t 6), none⟩,
⟨(some 28), .bin .gtr (.t 26) (.t 27), none⟩] (fullB 3) false)
 (.cond (.t 28)
 (.seq
 (.reg [⟨(some 4), .mv (.k (.d (.int .i64 1))), none⟩] (fullB 1) false)
 .ret)
 .skip))
 (.seq
 (.reg [⟨(some 4), .mv (.k (.d (.int .i64 0))), none⟩] (fullB 1) false)
 .ret)))))
def rv : List RV := [.tmp 4]
theorem c : cK Try.prog Try.f148.ntmps (Try.f148.body.getD .ret) = some s := by kernel_rfl
theorem b : Try.f148.body = some (Try.f148.body.getD .ret) := by kernel_rfl
theorem r : cRV Try.prog Try.f148.results.toList = some rv := by kernel_rfl
theorem ca : Callable Try.prog 148 = true := by kernel_rfl
theorem enter {args : List SV} {F : Hp} {k nk : Nat} {Q : SV → Hp → Prop} (hargs : SV.oks (fun n => decide (n < k)) args = true) (hF : F.ok (fun n => decide (n < k)) = true) (hN : args.length ≤ 29)
    (h : SW Try.prog 29 k s ⟨argE 0 args, F, k⟩ fun e st' => match e with | .normal => Fin k nk rv Q st' | .ret => Fin k nk rv Q st' | _ => False) : SB Try.prog 148 args F k nk Q :=
  SB.of_body Try.func148 b c r ca hargs hF hN h
end ref03_Compare
namespace ref03_with
abbrev f : Nat := 154
def s : SCo := (.seq
(.reg [⟨(some 3), .box 33 (.t 1), none⟩,
⟨(some 4), .mv (.k (.d .nils)), none⟩] (fullB 2) false)
(.seq
(.seq
(.reg [⟨(some 7), .mv (.t 0), none⟩,
⟨(some 8), .load (some 2) (.t 3), none⟩,
⟨(some 9), .call (.k (.fn (.func 44) [] [])) [(.t 7), (.t 8)], none⟩] (fullB 3) false)
(.cond (.t 9)
 (.seq
 (.reg [⟨(some 10), .mv (.t 0), none⟩,
⟨(some 4), .mv (.t 10), none⟩] (fullB 2) false)
 .ret)
 .skip))
(.seq
(.reg [⟨(some 5), .mv (.k (.d .nils)), none⟩] (fullB 1) false)
(.seq
 (.reg [⟨(some 6), .mv (.k (.d (.int .i64 0))), none⟩] (fullB 1) false)
 (.seq
 (.block 0
 (.loop
 (.seq
  (.seq
  (.reg [⟨(some 11), .mv (.t 6), none⟩,
⟨(some 12), .mv (.t 0), none⟩,
⟨(some 13), .len (.t 12), none⟩,
⟨(some 14), .bin .lss (.t 11) (.t 13), none⟩,
⟨(some 15), .mv (.t 14), none⟩,
⟨(some 16), .mv (.t 0), some (15, true)⟩,
⟨(some 17), .mv (.t 6), some (15, true)⟩,
⟨(some 18), .idxS 2 (.t 16) (.t 17), some (15, true)⟩,
⟨(some 19), .load (some 2) (.t 18), some (15, true)⟩,
⟨(some 20), .load (some 2) (.t 3), some (15, true)⟩,
⟨(some 21), .call (.k (.fn (.func 148) [] [])) [(.t 19), (.t 20)], some (15, true)⟩,
⟨(some 22), .bin .lss (.t 21) (.k (.d (.int .i64 0))), some (15, true)⟩,
⟨(some 23), .pick (.t 15) (.t 22) (.k (.d (.bool false))), none⟩] [0,
0,
2,
7,
15,
31,
31,
127,
255,
31,
1023,
2047,
4095] true)
  (.cond (.t 23)
  .skip
  (.exit 0)))
  (.block 1
  (.seq
  (.reg [⟨(some 24), .mv (.t 5), none⟩,
⟨(some 25), .mv (.t 0), none⟩,
⟨(some 26), .mv (.t 6), none⟩,
⟨(some 27), .idxS 2 (.t 25) (.t 26), none⟩,
⟨(some 28), .load (some 2) (.t 27), none⟩,
⟨(some 29), .bsl 33 2 1 [(.d (.int .u8 0)), (.d (.int .u32 0))] [(0, 2, (.t 28))], none⟩,
⟨(some 30), .app 33 2 8 (.t 24) (.t 29), none⟩,
⟨(some 5), .mv (.t 30), none⟩] (fullB 8) false)
  (.reg [⟨(some 31), .mv (.t 6), none⟩,
⟨(some 32), .bin .add (.t 31) (.k (.d (.int .i64 1))), none⟩,
⟨(some 6), .mv (.t 32), none⟩] (fullB 3) false))))))
 (.seq
 (.reg [⟨(some 33), .mv (.t 5), none⟩,
⟨(some 34), .load (some 2) (.t 3), none⟩,
⟨(some 35), .bsl 33 2 1 [(.d (.int .u8 0)), (.d (.int .u32 0))] [(0, 2, (.t 34))], none⟩,
⟨(some 36), .app 33 2 8 (.t 33) (.t 35), none⟩,
⟨(some 5), .mv (.t 36), none⟩] (fullB 5) false)
 (.seq
 (.reg [⟨(some 37), .mv (.t 5), none⟩,
⟨(some 38), .mv (.t 0), none⟩,
⟨(some 39), .mv (.t 6), none⟩,
⟨(some 40), .slc 2 (.t 38) (some (.t 39)) none, none⟩,
⟨(some 41), .app 33 2 8 (.t 37) (.t 40), none⟩,
⟨(some 4), .mv (.t 41), none⟩] (fullB 6) false)
 .ret)))))))
def rv : List RV := [.tmp 4]
theorem c : cK Try.prog Try.f154.ntmps (Try.f154.body.getD .ret) = some s := by kernel_rfl
theorem b : Try.f154.body = some (Try.f154.body.getD .ret) := by kernel_rfl
theorem r : cRV Try.prog Try.f154.results.toList = some rv := by kernel_rfl
theorem ca : Callable Try.prog 154 = true := by kernel_rfl
theorem enter {args : List SV} {F : Hp} {k nk : Nat} {Q : SV → Hp → Prop} (hargs : SV.oks (fun n => decide (n < k)) args = true) (hF : F.ok (fun n => decide (n < k)) = true) (hN : args.length ≤ 42)
    (h : SW Try.prog 42 k s ⟨argE 0 args, F, k⟩ fun e st' => match e with | .normal => Fin k nk rv Q st' | .ret => Fin k nk rv Q st' | _ => False) : SB Try.prog 154 args F k nk Q :=
  SB.of_body Try.func154 b c r ca hargs hF hN h
end ref03_with
namespace cmp_isNaN_int
abbrev f : Nat := 157
def s : SCo := (.seq
(.reg [⟨(some 2), .mv (.k (.d (.bool false))), none⟩] (fullB 1) false)
(.seq
(.reg [⟨(some 3), .mv (.t 0), none⟩,
⟨(some 4), .mv (.t 0), none⟩,
⟨(some 5), .bin .neq (.t 3) (.t 4), none⟩,
⟨(some 2), .mv (.t 5), none⟩] (fullB 4) false)
.ret))
def rv : List RV := [.tmp 2]
theorem c : cK Try.prog Try.f157.ntmps (Try.f157.body.getD .ret) = some s := by kernel_rfl
theorem b : Try.f157.body = some (Try.f157.body.getD .ret) := by kernel_rfl
theorem r : cRV Try.prog Try.f157.results.toList = some rv := by kernel_rfl
theorem ca : Callable Try.prog 157 = true := by kernel_rfl
theorem enter {args : List SV} {F : Hp} {k nk : Nat} {Q : SV → Hp → Prop} (hargs : SV.oks (fun n => decide (n < k)) args = true) (hF : F.ok (fun n => decide (n < k)) = true) (hN : args.length ≤ 6)
    (h : SW Try.prog 6 k s ⟨argE 0 args, F, k⟩ fun e st' => match e with | .normal => Fin k nk rv Q st' | .ret => Fin k nk rv Q st' | _ => False) : SB Try.prog 157 args F k nk Q :=
  SB.of_body Try.func157 b c r ca hargs hF hN h
end cmp_isNaN_int
namespace cmp_Compare_uint8
abbrev f : Nat := 158
def s : SCo := (.seq
(.reg [⟨(some 4), .mv (.k (.d (.int .i64 0))), none⟩] (fullB 1) false)
(.seq
(.reg [⟨(some 7), .mv (.t 0), none⟩,
⟨(some 8), .call (.k (.fn (.func 190) [] [])) [(.t 7)], none⟩,
⟨(some 5), .mv (.t 8), none⟩] (fullB 3) false)
(.seq
(.reg [⟨(some 9), .mv (.t 1), none⟩,
⟨(some 10), .call (.k (.fn (.func 190) [] [])) [(.t 9)], none⟩,
⟨(some 6), .mv (.t 10), none⟩] (fullB 3) false)
(.seq
 (.seq
 (.reg [⟨(some 11), .mv (.t 5), none⟩] (fullB 1) false)
 (.cond (.t 11)
 (.seq
 (.seq
  (.reg [⟨(some 12), .mv (.t 6), none⟩] (fullB 1) false)
  (.cond (.t 12)
  (.seq
  (.reg [⟨(some 4), .mv (.k (.d (.int .i64 0))), none⟩] (fullB 1) false)
  .ret)
  .skip))
 (.seq
  (.reg [⟨(some 4), .mv (.k (.d (.int .i64 (-1)))), none⟩] (fullB 1) false)
  .ret))
 .skip))
 (.seq
 (.seq
 (.reg [⟨(some 13), .mv (.t 6), none⟩] (fullB 1) false)
 (.cond (.t 13)
 (.seq
  (.reg [⟨(some 4), .mv (.k (.d (.int .i64 1))), none⟩] (fullB 1) false)
  .ret)
 .skip))
 (.seq
 (.seq
 (.reg [⟨(some 14), .mv (.t 0), none⟩,
⟨(some 15), .mv (.t 1), none⟩,
⟨(some 16), .bin .lss (.t 14) (.t 15), none⟩] (fullB 3) false)
 (.cond (.t 16)
  (.seq
  (.reg [⟨(some 4), .mv (.k (.d (.int .i64 (-1)))), none⟩] (fullB 1) false)
  .ret)
  .skip))
 (.seq
 (.seq
  (.reg [⟨(some 17), .mv (.t 0), none⟩,
⟨(some 18), .mv (.t 1), none⟩,
⟨(some 19), .bin .gtr (.t 17) (.t 18), none⟩] (fullB 3) false)
  (.cond (.t 19)
  (.seq
  (.reg [⟨(some 4), .mv (.k (.d (.int .i64 1))), none⟩] (fullB 1) false)
  .ret)
  .skip))
 (.seq
  (.reg [⟨(some 4), .mv (.k (.d (.int .i64 0))), none⟩] (fullB 1) false)
  .ret))))))))
def rv : List RV := [.tmp 4]
theorem c : cK Try.prog Try.f158.ntmps (Try.f158.body.getD .ret) = some s := by kernel_rfl
theorem b : Try.f158.body = some (Try.f158.body.getD .ret) := by kernel_rfl
theorem r : cRV Try.prog Try.f158.results.toList = some rv := by kernel_rfl
theorem ca : Callable Try.prog 158 = true := by kernel_rfl
theorem enter {args : List SV} {F : Hp} {k nk : Nat} {Q : SV → Hp → Prop} (hargs : SV.oks (fun n => decide (n < k)) args = true) (hF : F.ok (fun n => decide (n < k)) = true) (hN : args.length ≤ 20)
    (h : SW Try.prog 20 k s ⟨argE 0 args, F, k⟩ fun e st' => match e with | .normal => Fin k nk rv Q st' | .ret => Fin k nk rv Q st' | _ => False) : SB Try.prog 158 args F k nk Q :=
  SB.of_body Try.func158 b c r ca hargs hF hN h
end cmp_Compare_uint8
namespace cmp_Compare_uint32
abbrev f : Nat := 159
def s : SCo := (.seq
(.reg [⟨(some 4), .mv (.k (.d (.int .i64 0))), none⟩] (fullB 1) false)
(.seq
(.reg [⟨(some 7), .mv (.t 0), none⟩,
⟨(some 8), .call (.k (.fn (.func 191) [] [])) [(.t 7)], none⟩,
⟨(some 5), .mv (.t 8), none⟩] (fullB 3) false)
(.seq
(.reg [⟨(some 9), .mv (.t 1), none⟩,
⟨(some 10), .call (.k (.fn (.func 191) [] [])) [(.t 9)], none⟩,
⟨(some 6), .mv (.t 10), none⟩] (fullB 3) false)
(.seq
 (.seq
 (.reg [⟨(some 11), .mv (.t 5), none⟩] (fullB 1) false)
 (.cond (.t 11)
 (.seq
 (.seq
  (.reg [⟨(some 12), .mv (.t 6), none⟩] (fullB 1) false)
  (.cond (.t 12)
  (.seq
  (.reg [⟨(some 4), .mv (.k (.d (.int .i64 0))), none⟩] (fullB 1) false)
  .ret)
  .skip))
 (.seq
  (.reg [⟨(some 4), .mv (.k (.d (.int .i64 (-1)))), none⟩] (fullB 1) false)
  .ret))
 .skip))
 (.seq
 (.seq
 (.reg [⟨(some 13), .mv (.t 6), none⟩] (fullB 1) false)
 (.cond (.t 13)
 (.seq
  (.reg [⟨(some 4), .mv (.k (.d (.int .i64 1))), none⟩] (fullB 1) false)
  .ret)
 .skip))
 (.seq
 (.seq
 (.reg [⟨(some 14), .mv (.t 0), none⟩,
⟨(some 15), .mv (.t 1), none⟩,
⟨(some 16), .bin .lss (.t 14) (.t 15), none⟩] (fullB 3) false)
 (.cond (.t 16)
  (.seq
  (.reg [⟨(some 4), .mv (.k (.d (.int .i64 (-1)))), none⟩] (fullB 1) false)
  .ret)
  .skip))
 (.seq
 (.seq
  (.reg [⟨(some 17), .mv (.t 0), none⟩,
⟨(some 18), .mv (.t 1), none⟩,
⟨(some 19), .bin .gtr (.t 17) (.t 18), none⟩] (fullB 3) false)
  (.cond (.t 19)
  (.seq
  (.reg [⟨(some 4), .mv (.k (.d (.int .i64 1))), none⟩] (fullB 1) false)
  .ret)
  .skip))
 (.seq
  (.reg [⟨(some 4), .mv (.k (.d (.int .i64 0))), none⟩] (fullB 1) false)
  .ret))))))))
def rv : List RV := [.tmp 4]
theorem c : cK Try.prog Try.f159.ntmps (Try.f159.body.getD .ret) = some s := by kernel_rfl
theorem b : Try.f159.body = some (Try.f159.body.getD .ret) := by kernel_rfl
theorem r : cRV Try.prog Try.f159.results.toList = some rv := by kernel_rfl
theorem ca : Callable Try.prog 159 = true := by kernel_rfl
theorem enter {args : List SV} {F : Hp} {k nk : Nat} {Q : SV → Hp → Prop} (hargs : SV.oks (fun n => decide (n < k)) args = true) (hF : F.ok (fun n => decide (n < k)) = true) (hN : args.length ≤ 20)
    (h : SW Try.prog 20 k s ⟨argE 0 args, F, k⟩ fun e st' => match e with | .normal => Fin k nk rv Q st' | .ret => Fin k nk rv Q st' | _ => False) : SB Try.prog 159 args F k nk Q :=
  SB.of_body Try.func159 b c r ca hargs hF hN h
end cmp_Compare_uint32
namespace vector_Covers
abbrev f : Nat := 160
def s : SCo := (.seq
(.reg [⟨(some 2), .box 35 (.t 0), none⟩,
⟨(some 3), .box 33 (.t 1), none⟩,
⟨(some 4), .mv (.k (.d (.bool false))), none⟩] (fullB 3) false)
(.seq
(.reg [⟨(some 5), .load (some 2) (.t 3), none⟩,
⟨(some 6), .call (.k (.fn (.func 192) [] [])) [(.t 5)], none⟩,
⟨(some 7), .mv (.t 6), none⟩,
⟨(some 8), .fld 0 (.t 3), some (7, true)⟩,
⟨(some 9), .load none (.t 8), some (7, true)⟩,
⟨(some 10), .idxA 8 1 (.t 2) (.t 9), some (7, true)⟩,
⟨(some 11), .load none (.t 10), some (7, true)⟩,
⟨(some 12), .fld 1 (.t 3), some (7, true)⟩,
⟨(some 13), .load none (.t 12), some (7, true)⟩,
⟨(some 14), .bin .geq (.t 11) (.t 13), some (7, true)⟩,
⟨(some 15), .pick (.t 7) (.t 14) (.k (.d (.bool false))), none⟩,
⟨(some 4), .mv (.t 15), none⟩] [0,
1,
3,
7,
15,
31,
63,
7,
135,
511,
1023,
2047] true)
.ret))
def rv : List RV := [.tmp 4]
theorem c : cK Try.prog Try.f160.ntmps (Try.f160.body.getD .ret) = some s := by kernel_rfl
theorem b : Try.f160.body = some (Try.f160.body.getD .ret) := by kernel_rfl
theorem r : cRV Try.prog Try.f160.results.toList = some rv := by kernel_rfl
theorem ca : Callable Try.prog 160 = true := by kernel_rfl
theorem enter {args : List SV} {F : Hp} {k nk : Nat} {Q : SV → Hp → Prop} (hargs : SV.oks (fun n => decide (n < k)) args = true) (hF : F.ok (fun n => decide (n < k)) = true) (hN : args.length ≤ 16)
    (h : SW Try.prog 16 k s ⟨argE 0 args, F, k⟩ fun e st' => match e with | .normal => Fin k nk rv Q st' | .ret => Fin k nk rv Q st' | _ => False) : SB Try.prog 160 args F k nk Q :=
  SB.of_body Try.func160 b c r ca hargs hF hN h
end vector_Covers
namespace ref16_has
abbrev f : Nat := 161
def s : SCo := (.seq
(.reg [⟨(some 4), .mv (.k (.d (.bool false))), none⟩] (fullB 1) false)
(.seq
(.reg [⟨(some 5), .mv (.t 0), none⟩,
⟨(some 6), .mv (.t 1), none⟩,
⟨(some 7), .bin .quo (.t 5) (.t 6), none⟩,
⟨(some 8), .bin .rem (.t 7) (.k (.d (.int .u8 2))), none⟩,
⟨(some 9), .bin .eql (.t 8) (.k (.d (.int .u8 1))), none⟩,
⟨(some 4), .mv (.t 9), none⟩] (fullB 6) false)
.ret))
def rv : List RV := [.tmp 4]
theorem c : cK Try.prog Try.f161.ntmps (Try.f161.body.getD .ret) = some s := by kernel_rfl
theorem b : Try.f161.body = some (Try.f161.body.getD .ret) := by kernel_rfl
theorem r : cRV Try.prog Try.f161.results.toList = some rv := by kernel_rfl
theorem ca : Callable Try.prog 161 = true := by kernel_rfl
theorem enter {args : List SV} {F : Hp} {k nk : Nat} {Q : SV → Hp → Prop} (hargs : SV.oks (fun n => decide (n < k)) args = true) (hF : F.ok (fun n => decide (n < k)) = true) (hN : args.length ≤ 10)
    (h : SW Try.prog 10 k s ⟨argE 0 args, F, k⟩ fun e st' => match e with | .normal => Fin k nk rv Q st' | .ret => Fin k nk rv Q st' | _ => False) : SB Try.prog 161 args F k nk Q :=
  SB.of_body Try.func161 b c r ca hargs hF hN h
end ref16_has
namespace ref16_within
abbrev f : Nat := 162
def s : SCo := (.seq
(.reg [⟨(some 4), .mv (.k (.d (.bool false))), none⟩] (fullB 1) false)
(.seq
(.seq
(.reg [⟨(some 6), .mv (.t 0), none⟩,
⟨(some 7), .bin .eql (.t 6) (.k (.d (.int .u8 0))), none⟩] (fullB 2) false)
(.cond (.t 7)
 (.seq
 (.reg [⟨(some 4), .mv (.k (.d (.bool false))), none⟩] (fullB 1) false)
 .ret)
 .skip))
(.seq
(.seq
 (.reg [⟨(some 5), .mv (.k (.d (.int .i64 1))), none⟩] (fullB 1) false)
 (.block 0
 (.loop
 (.seq
 (.seq
  (.reg [⟨(some 8), .mv (.t 5), none⟩,
⟨(some 9), .bin .lss (.t 8) (.k (.d (.int .i64 256))), none⟩] (fullB 2) false)
  (.cond (.t 9)
  .skip
  (.exit 0)))
 (.seq
  (.block 1
  (.seq
  (.reg [⟨(some 12), .mv (.t 0), none⟩,
⟨(some 13), .mv (.t 5), none⟩,
⟨(some 14), .conv .u8 (.t 13), none⟩,
⟨(some 15), .call (.k (.fn (.func 161) [] [])) [(.t 12), (.t 14)], none⟩,
⟨(some 16), .mv (.t 15), none⟩,
⟨(some 17), .mv (.t 1), some (16, true)⟩,
⟨(some 18), .mv (.t 5), some (16, true)⟩,
⟨(some 19), .conv .u8 (.t 18), some (16, true)⟩,
⟨(some 20), .call (.k (.fn (.func 161) [] [])) [(.t 17), (.t 19)], some (16, true)⟩,
⟨(some 21), .not (.t 20), some (16, true)⟩,
⟨(some 22), .pick (.t 16) (.t 21) (.k (.d (.bool false))), none⟩] (fullB 11) false)
  (.cond (.t 22)
  (.seq
   (.reg [⟨(some 4), .mv (.k (.d (.bool false))), none⟩] (fullB 1) false)
   .ret)
  .skip)))
  (.reg [⟨(some 10), .mv (.t 5), none⟩,
⟨(some 11), .bin .mul (.k (.d (.int .i64 2))) (.t 10), none⟩,
⟨(some 5), .mv (.t 11), none⟩] (fullB 3) false))))))
(.seq
 (.reg [⟨(some 4), .mv (.k (.d (.bool true))), none⟩] (fullB 1) false)
 .ret))))
def rv : List RV := [.tmp 4]
theorem c : cK Try.prog Try.f162.ntmps (Try.f162.body.getD .ret) = some s := by kernel_rfl
theorem b : Try.f162.body = some (Try.f162.body.getD .ret) := by kernel_rfl
theorem r : cRV Try.prog Try.f162.results.toList = some rv := by kernel_rfl
theorem ca : Callable Try.prog 162 = true := by kernel_rfl
theorem enter {args : List SV} {F : Hp} {k nk : Nat} {Q : SV → Hp → Prop} (hargs : SV.oks (fun n => decide (n < k)) args = true) (hF : F.ok (fun n => decide (n < k)) = true) (hN : args.length ≤ 23)
    (h : SW Try.prog 23 k s ⟨argE 0 args, F, k⟩ fun e st' => match e with | .normal => Fin k nk rv Q st' | .ret => Fin k nk rv Q st' | _ => False) : SB Try.prog 162 args F k nk Q :=
  SB.of_body Try.func162 b c r ca hargs hF hN h
end ref16_within
namespace cmp_isNaN_uint8
abbrev f : Nat := 190
def s : SCo := (.seq
(.reg [⟨(some 2), .mv (.k (.d (.bool false))), none⟩] (fullB 1) false)
(.seq
(.reg [⟨(some 3), .mv (.t 0), none⟩,
⟨(some 4), .mv (.t 0), none⟩,
⟨(some 5), .bin .neq (.t 3) (.t 4), none⟩,
⟨(some 2), .mv (.t 5), none⟩] (fullB 4) false)
.ret))
def rv : List RV := [.tmp 2]
theorem c : cK Try.prog Try.f190.ntmps (Try.f190.body.getD .ret) = some s := by kernel_rfl
theorem b : Try.f190.body = some (Try.f190.body.getD .ret) := by kernel_rfl
theorem r : cRV Try.prog Try.f190.results.toList = some rv := by kernel_rfl
theorem ca : Callable Try.prog 190 = true := by kernel_rfl
theorem enter {args : List SV} {F : Hp} {k nk : Nat} {Q : SV → Hp → Prop} (hargs : SV.oks (fun n => decide (n < k)) args = true) (hF : F.ok (fun n => decide (n < k)) = true) (hN : args.length ≤ 6)
    (h : SW Try.prog 6 k s ⟨argE 0 args, F, k⟩ fun e st' => match e with | .normal => Fin k nk rv Q st' | .ret => Fin k nk rv Q st' | _ => False) : SB Try.prog 190 args F k nk Q :=
  SB.of_body Try.func190 b c r ca hargs hF hN h
end cmp_isNaN_uint8
namespace cmp_isNaN_uint32
abbrev f : Nat := 191
def s : SCo := (.seq
(.reg [⟨(some 2), .mv (.k (.d (.bool false))), none⟩] (fullB 1) false)
(.seq
(.reg [⟨(some 3), .mv (.t 0), none⟩,
⟨(some 4), .mv (.t 0), none⟩,
⟨(some 5), .bin .neq (.t 3) (.t 4), none⟩,
⟨(some 2), .mv (.t 5), none⟩] (fullB 4) false)
.ret))
def rv : List RV := [.tmp 2]
theorem c : cK Try.prog Try.f191.ntmps (Try.f191.body.getD .ret) = some s := by kernel_rfl
theorem b : Try.f191.body = some (Try.f191.body.getD .ret) := by kernel_rfl
theorem r : cRV Try.prog Try.f191.results.toList = some rv := by kernel_rfl
theorem ca : Callable Try.prog 191 = true := by kernel_rfl
theorem enter {args : List SV} {F : Hp} {k nk : Nat} {Q : SV → Hp → Prop} (hargs : SV.oks (fun n => decide (n < k)) args = true) (hF : F.ok (fun n => decide (n < k)) = true) (hN : args.length ≤ 6)
    (h : SW Try.prog 6 k s ⟨argE 0 args, F, k⟩ fun e st' => match e with | .normal => Fin k nk rv Q st' | .ret => Fin k nk rv Q st' | _ => False) : SB Try.prog 191 args F k nk Q :=
  SB.of_body Try.func191 b c r ca hargs hF hN h
end cmp_isNaN_uint32
namespace dot_May
abbrev f : Nat := 192
def s : SCo := (.seq
(.reg [⟨(some 1), .box 33 (.t 0), none⟩,
⟨(some 2), .mv (.k (.d (.bool false))), none⟩] (fullB 2) false)
(.seq
(.reg [⟨(some 3), .fld 0 (.t 1), none⟩,
⟨(some 4), .load none (.t 3), none⟩,
⟨(some 5), .bin .lss (.t 4) (.k (.d (.int .u8 8))), none⟩,
⟨(some 6), .mv (.t 5), none⟩,
⟨(some 7), .fld 1 (.t 1), some (6, true)⟩,
⟨(some 8), .load none (.t 7), some (6, true)⟩,
⟨(some 9), .bin .gtr (.t 8) (.k (.d (.int .u32 0))), some (6, true)⟩,
⟨(some 10), .pick (.t 6) (.t 9) (.k (.d (.bool false))), none⟩,
⟨(some 2), .mv (.t 10), none⟩] (fullB 9) false)
.ret))
def rv : List RV := [.tmp 2]
theorem c : cK Try.prog Try.f192.ntmps (Try.f192.body.getD .ret) = some s := by kernel_rfl
theorem b : Try.f192.body = some (Try.f192.body.getD .ret) := by kernel_rfl
theorem r : cRV Try.prog Try.f192.results.toList = some rv := by kernel_rfl
theorem ca : Callable Try.prog 192 = true := by kernel_rfl
theorem enter {args : List SV} {F : Hp} {k nk : Nat} {Q : SV → Hp → Prop} (hargs : SV.oks (fun n => decide (n < k)) args = true) (hF : F.ok (fun n => decide (n < k)) = true) (hN : args.length ≤ 11)
    (h : SW Try.prog 11 k s ⟨argE 0 args, F, k⟩ fun e st' => match e with | .normal => Fin k nk rv Q st' | .ret => Fin k nk rv Q st' | _ => False) : SB Try.prog 192 args F k nk Q :=
  SB.of_body Try.func192 b c r ca hargs hF hN h
end dot_May
end Go.Proofs.Ytmmonbnlleeloaa
