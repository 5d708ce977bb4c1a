/-
  The code of more functions in the small form, by program (gen.py, more.py).
-/
import Derived.Test.YtmmonbnlleeloaaKV
set_option linter.unusedVariables false
set_option linter.unusedSimpArgs false
set_option linter.unusedSectionVars false
namespace Go.Proofs.Ytmmonbnlleeloaa
open Go.Sl Go.Proofs
namespace law22_ChargeTurned
abbrev f : Nat := 10
def s : SCo := (.seq
(.reg [⟨(some 5), .box 81 (.t 2), none⟩,
⟨(some 6), .mv (.k (.d (.bool false))), none⟩] (fullB 2) false)
(.seq
(.seq
(.reg [⟨(some 22), .mv (.t 0), none⟩,
⟨(some 23), .call (.k (.fn (.func 20) [] [])) [(.t 22)], none⟩,
⟨(some 24), .mv (.t 23), none⟩,
⟨(some 25), .mv (.t 0), some (24, false)⟩,
⟨(some 26), .len (.t 25), some (24, false)⟩,
⟨(some 27), .bin .gtr (.t 26) (.k (.d (.int .i64 50))), some (24, false)⟩,
⟨(some 28), .pick (.t 24) (.k (.d (.bool true))) (.t 27), none⟩,
⟨(some 29), .mv (.t 28), none⟩,
⟨(some 30), .mv (.t 1), some (29, false)⟩,
⟨(some 31), .len (.t 30), some (29, false)⟩,
⟨(some 32), .bin .gtr (.t 31) (.k (.d (.int .i64 60))), some (29, false)⟩,
⟨(some 33), .pick (.t 29) (.k (.d (.bool true))) (.t 32), none⟩] (fullB 12) false)
(.cond (.t 33)
 (.seq
 (.reg [⟨(some 34), .call (.k (.fn (.func 45) [] [])) [], none⟩,
⟨(some 6), .mv (.t 34), none⟩] (fullB 2) false)
 .ret)
 .skip))
(.seq
(.reg [⟨(some 35), .mv (.t 0), none⟩,
⟨(some 36), .call (.k (.fn (.func 22) [] [])) [(.t 35)], none⟩,
⟨(some 7), .mv (.t 36), none⟩] (fullB 3) false)
(.seq
 (.reg [⟨(some 38), .mv (.t 7), none⟩,
⟨(some 39), .mv (.t 1), none⟩,
⟨(some 40), .idxA 2 3 (.t 5) (.k (.d (.int .i64 0))), none⟩,
⟨(some 41), .fld 0 (.t 40), none⟩,
⟨(some 42), .load (some 2) (.t 41), none⟩,
⟨(some 43), .idxA 2 3 (.t 5) (.k (.d (.int .i64 0))), none⟩,
⟨(some 44), .fld 2 (.t 43), none⟩,
⟨(some 45), .load none (.t 44), none⟩,
⟨(some 46), .call (.k (.fn (.func 46) [] [])) [(.t 38), (.t 39), (.t 42), (.t 45)], none⟩,
⟨(some 37), .mv (.t 46), none⟩,
⟨(some 47), .ext 0 (.t 37), none⟩,
⟨(some 48), .ext 1 (.t 37), none⟩,
⟨(some 8), .mv (.t 47), none⟩,
⟨(some 9), .mv (.t 48), none⟩] (fullB 14) false)
 (.seq
 (.reg [⟨(some 50), .mv (.t 7), none⟩,
⟨(some 51), .mv (.t 8), none⟩,
⟨(some 52), .idxA 2 3 (.t 5) (.k (.d (.int .i64 1))), none⟩,
⟨(some 53), .fld 0 (.t 52), none⟩,
⟨(some 54), .load (some 2) (.t 53), none⟩,
⟨(some 55), .idxA 2 3 (.t 5) (.k (.d (.int .i64 1))), none⟩,
⟨(some 56), .fld 2 (.t 55), none⟩,
⟨(some 57), .load none (.t 56), none⟩,
⟨(some 58), .call (.k (.fn (.func 46) [] [])) [(.t 50), (.t 51), (.t 54), (.t 57)], none⟩,
⟨(some 49), .mv (.t 58), none⟩,
⟨(some 59), .ext 0 (.t 49), none⟩,
⟨(some 60), .ext 1 (.t 49), none⟩,
⟨(some 10), .mv (.t 59), none⟩,
⟨(some 11), .mv (.t 60), none⟩] (fullB 14) false)
 (.seq
 (.reg [⟨(some 62), .mv (.t 7), none⟩,
⟨(some 63), .mv (.t 1), none⟩,
⟨(some 64), .idxA 2 3 (.t 5) (.k (.d (.int .i64 1))), none⟩,
⟨(some 65), .fld 0 (.t 64), none⟩,
⟨(some 66), .load (some 2) (.t 65), none⟩,
⟨(some 67), .idxA 2 3 (.t 5) (.k (.d (.int .i64 1))), none⟩,
⟨(some 68), .fld 2 (.t 67), none⟩,
⟨(some 69), .load none (.t 68), none⟩,
⟨(some 70), .call (.k (.fn (.func 46) [] [])) [(.t 62), (.t 63), (.t 66), (.t 69)], none⟩,
⟨(some 61), .mv (.t 70), none⟩,
⟨(some 71), .ext 0 (.t 61), none⟩,
⟨(some 72), .ext 1 (.t 61), none⟩,
⟨(some 12), .mv (.t 71), none⟩,
⟨(some 13), .mv (.t 72), none⟩] (fullB 14) false)
 (.seq
 (.reg [⟨(some 74), .mv (.t 7), none⟩,
⟨(some 75), .mv (.t 12), none⟩,
⟨(some 76), .idxA 2 3 (.t 5) (.k (.d (.int .i64 0))), none⟩,
⟨(some 77), .fld 0 (.t 76), none⟩,
⟨(some 78), .load (some 2) (.t 77), none⟩,
⟨(some 79), .idxA 2 3 (.t 5) (.k (.d (.int .i64 0))), none⟩,
⟨(some 80), .fld 2 (.t 79), none⟩,
⟨(some 81), .load none (.t 80), none⟩,
⟨(some 82), .call (.k (.fn (.func 46) [] [])) [(.t 74), (.t 75), (.t 78), (.t 81)], none⟩,
⟨(some 73), .mv (.t 82), none⟩,
⟨(some 83), .ext 0 (.t 73), none⟩,
⟨(some 84), .ext 1 (.t 73), none⟩,
⟨(some 14), .mv (.t 83), none⟩,
⟨(some 15), .mv (.t 84), none⟩] (fullB 14) false)
 (.seq
  (.seq
  (.reg [⟨(some 85), .mv (.t 9), none⟩,
⟨(some 86), .bin .neq (.t 85) (.k (.d (.int .i64 0))), none⟩,
⟨(some 87), .mv (.t 86), none⟩,
⟨(some 88), .mv (.t 13), some (87, false)⟩,
⟨(some 89), .bin .neq (.t 88) (.k (.d (.int .i64 0))), some (87, false)⟩,
⟨(some 90), .pick (.t 87) (.k (.d (.bool true))) (.t 89), none⟩] (fullB 6) false)
  (.cond (.t 90)
  (.seq
  (.reg [⟨(some 91), .call (.k (.fn (.func 45) [] [])) [], none⟩,
⟨(some 6), .mv (.t 91), none⟩] (fullB 2) false)
  .ret)
  .skip))
  (.seq
  (.seq
  (.reg [⟨(some 92), .mv (.t 11), none⟩,
⟨(some 93), .mv (.t 15), none⟩,
⟨(some 94), .bin .neq (.t 92) (.t 93), none⟩,
⟨(some 95), .mv (.t 94), none⟩,
⟨(some 96), .mv (.t 11), some (95, false)⟩,
⟨(some 97), .bin .eql (.t 96) (.k (.d (.int .i64 0))), some (95, false)⟩,
⟨(some 98), .mv (.t 97), some (95, false)⟩,
⟨(some 99), .mv (.t 10), some (98, true)⟩,
⟨(some 100), .mv (.t 14), some (98, true)⟩,
⟨(some 101), .call (.k (.fn (.func 47) [] [])) [(.t 99), (.t 100)], some (98, true)⟩,
⟨(some 102), .not (.t 101), some (98, true)⟩,
⟨(some 103), .pick (.t 98) (.t 102) (.k (.d (.bool false))), some (95, false)⟩,
⟨(some 104), .pick (.t 95) (.k (.d (.bool true))) (.t 103), none⟩] (fullB 13) false)
  (.cond (.t 104)
  (.seq
   (.reg [⟨(some 6), .mv (.k (.d (.bool false))), none⟩] (fullB 1) false)
   .ret)
  .skip))
  (.seq
  (.reg [⟨(some 106), .mv (.t 0), none⟩,
⟨(some 107), .idxA 2 3 (.t 5) (.k (.d (.int .i64 0))), none⟩,
⟨(some 108), .fld 0 (.t 107), none⟩,
⟨(some 109), .load (some 2) (.t 108), none⟩,
⟨(some 110), .call (.k (.fn (.func 36) [] [])) [(.t 106), (.t 109)], none⟩,
⟨(some 105), .mv (.t 110), none⟩,
⟨(some 111), .ext 0 (.t 105), none⟩,
⟨(some 112), .ext 1 (.t 105), none⟩,
⟨(some 16), .mv (.t 111), none⟩,
⟨(some 17), .mv (.t 112), none⟩] (fullB 10) false)
  (.seq
  (.reg [⟨(some 114), .mv (.t 0), none⟩,
⟨(some 115), .idxA 2 3 (.t 5) (.k (.d (.int .i64 1))), none⟩,
⟨(some 116), .fld 0 (.t 115), none⟩,
⟨(some 117), .load (some 2) (.t 116), none⟩,
⟨(some 118), .call (.k (.fn (.func 36) [] [])) [(.t 114), (.t 117)], none⟩,
⟨(some 113), .mv (.t 118), none⟩,
⟨(some 119), .ext 0 (.t 113), none⟩,
⟨(some 120), .ext 1 (.t 113), none⟩,
⟨(some 18), .mv (.t 119), none⟩,
⟨(some 19), .mv (.t 120), none⟩] (fullB 10) false)
  (.seq
   (.reg [⟨(some 20), .mv (.k (.d (.bool false))), none⟩] (fullB 1) false)
   (.seq
   (.seq
   (.reg [⟨(some 21), .mv (.k (.d (.int .i64 0))), none⟩] (fullB 1) false)
   (.block 0
   (.loop
    (.seq
    (.seq
    (.reg [⟨(some 121), .mv (.t 21), none⟩,
⟨(some 122), .mv (.t 16), none⟩,
⟨(some 123), .len (.t 122), none⟩,
⟨(some 124), .bin .lss (.t 121) (.t 123), none⟩] (fullB 4) false)
    (.cond (.t 124)
    .skip
    (.exit 0)))
    (.seq
    (.block 1
    (.reg [⟨(some 127), .mv (.t 20), none⟩,
⟨(some 128), .mv (.t 127), none⟩,
⟨(some 129), .mv (.t 18), some (128, false)⟩,
⟨(some 130), .mv (.t 16), some (128, false)⟩,
⟨(some 131), .mv (.t 21), some (128, false)⟩,
⟨(some 132), .idxS 2 (.t 130) (.t 131), some (128, false)⟩,
⟨(some 133), .load (some 2) (.t 132), some (128, false)⟩,
⟨(some 134), .call (.k (.fn (.func 44) [] [])) [(.t 129), (.t 133)], some (128, false)⟩,
⟨(some 135), .pick (.t 128) (.k (.d (.bool true))) (.t 134), none⟩,
⟨(some 20), .mv (.t 135), none⟩] (fullB 10) false))
    (.reg [⟨(some 125), .mv (.t 21), none⟩,
⟨(some 126), .bin .add (.t 125) (.k (.d (.int .i64 1))), none⟩,
⟨(some 21), .mv (.t 126), none⟩] (fullB 3) false))))))
   (.seq
   (.reg [⟨(some 136), .mv (.t 20), none⟩,
⟨(some 137), .mv (.t 136), none⟩,
⟨(some 138), .mv (.t 11), some (137, false)⟩,
⟨(some 139), .bin .eql (.t 138) (.k (.d (.int .i64 0))), some (137, false)⟩,
⟨(some 140), .pick (.t 137) (.k (.d (.bool true))) (.t 139), none⟩,
⟨(some 141), .mv (.t 140), none⟩,
⟨(some 142), .call (.k (.fn (.func 45) [] [])) [], some (141, true)⟩,
⟨(some 143), .pick (.t 141) (.t 142) (.k (.d (.bool false))), none⟩,
⟨(some 6), .mv (.t 143), none⟩] (fullB 9) false)
   .ret))))))))))))))
def rv : List RV := [.tmp 6]
theorem c : cK Try.prog Try.f10.ntmps (Try.f10.body.getD .ret) = some s := by kernel_rfl
theorem b : Try.f10.body = some (Try.f10.body.getD .ret) := by kernel_rfl
theorem r : cRV Try.prog Try.f10.results.toList = some rv := by kernel_rfl
theorem ca : Callable Try.prog 10 = true := by kernel_rfl
theorem enter {args : List SV} {F : Hp} {k nk : Nat} {Q : SV → Hp → Prop} (hargs : SV.oks (fun n => decide (n < k)) args = true) (hF : F.ok (fun n => decide (n < k)) = true) (hN : args.length ≤ 144)
    (h : SW Try.prog 144 k s ⟨argE 0 args, F, k⟩ fun e st' => match e with | .normal => Fin k nk rv Q st' | .ret => Fin k nk rv Q st' | _ => False) : SB Try.prog 10 args F k nk Q :=
  SB.of_body Try.func10 b c r ca hargs hF hN h
end law22_ChargeTurned
namespace law22_ChargeParts
abbrev f : Nat := 11
def s : SCo := (.seq
(.reg [⟨(some 5), .box 81 (.t 2), none⟩,
⟨(some 6), .mv (.k (.d (.bool false))), none⟩] (fullB 2) false)
(.seq
(.seq
(.reg (⟨(some 14), .mv (.t 0), none⟩ ::
⟨(some 15), .call (.k (.fn (.func 20) [] [])) [(.t 14)], none⟩ ::
⟨(some 16), .mv (.t 15), none⟩ ::
⟨(some 17), .mv (.t 0), some (16, false)⟩ ::
⟨(some 18), .len (.t 17), some (16, false)⟩ ::
⟨(some 19), .bin .gtr (.t 18) (.k (.d (.int .i64 50))), some (16, false)⟩ ::
⟨(some 20), .pick (.t 16) (.k (.d (.bool true))) (.t 19), none⟩ ::
⟨(some 21), .mv (.t 20), none⟩ ::
⟨(some 22), .mv (.t 1), some (21, false)⟩ ::
⟨(some 23), .len (.t 22), some (21, false)⟩ ::
⟨(some 24), .bin .gtr (.t 23) (.k (.d (.int .i64 60))), some (21, false)⟩ ::
⟨(some 25), .pick (.t 21) (.k (.d (.bool true))) (.t 24), none⟩ ::
⟨(some 26), .mv (.t 25), none⟩ ::
⟨(some 27), .idxA 2 3 (.t 5) (.k (.d (.int .i64 0))), some (26, false)⟩ ::
⟨(some 28), .fld 2 (.t 27), some (26, false)⟩ ::
⟨(some 29), .load none (.t 28), some (26, false)⟩ ::
⟨(some 30), .bin .gtr (.t 29) (.k (.d (.int .u64 2199023255552))), some (26, false)⟩ ::
⟨(some 31), .pick (.t 26) (.k (.d (.bool true))) (.t 30), none⟩ ::
⟨(some 32), .mv (.t 31), none⟩ ::
⟨(some 33), .idxA 2 3 (.t 5) (.k (.d (.int .i64 1))), some (32, false)⟩ ::
⟨(some 34), .fld 2 (.t 33), some (32, false)⟩ ::
⟨(some 35), .load none (.t 34), some (32, false)⟩ ::
⟨(some 36), .bin .gtr (.t 35) (.k (.d (.int .u64 2199023255552))), some (32, false)⟩ ::
⟨(some 37), .pick (.t 32) (.k (.d (.bool true))) (.t 36), none⟩ :: []) (fullB 24) false)
(.cond (.t 37)
 (.seq
 (.reg [⟨(some 38), .call (.k (.fn (.func 45) [] [])) [], none⟩,
⟨(some 6), .mv (.t 38), none⟩] (fullB 2) false)
 .ret)
 .skip))
(.seq
(.reg [⟨(some 39), .mv (.t 0), none⟩,
⟨(some 40), .call (.k (.fn (.func 22) [] [])) [(.t 39)], none⟩,
⟨(some 7), .mv (.t 40), none⟩] (fullB 3) false)
(.seq
 (.reg (⟨(some 42), .mv (.t 7), none⟩ ::
⟨(some 43), .mv (.t 1), none⟩ ::
⟨(some 44), .idxA 2 3 (.t 5) (.k (.d (.int .i64 0))), none⟩ ::
⟨(some 45), .fld 0 (.t 44), none⟩ ::
⟨(some 46), .load (some 2) (.t 45), none⟩ ::
⟨(some 47), .idxA 2 3 (.t 5) (.k (.d (.int .i64 0))), none⟩ ::
⟨(some 48), .fld 2 (.t 47), none⟩ ::
⟨(some 49), .load none (.t 48), none⟩ ::
⟨(some 50), .idxA 2 3 (.t 5) (.k (.d (.int .i64 1))), none⟩ ::
⟨(some 51), .fld 2 (.t 50), none⟩ ::
⟨(some 52), .load none (.t 51), none⟩ ::
⟨(some 53), .bin .add (.t 49) (.t 52), none⟩ ::
⟨(some 54), .call (.k (.fn (.func 46) [] [])) [(.t 42), (.t 43), (.t 46), (.t 53)], none⟩ ::
⟨(some 41), .mv (.t 54), none⟩ ::
⟨(some 55), .ext 0 (.t 41), none⟩ ::
⟨(some 56), .ext 1 (.t 41), none⟩ ::
⟨(some 8), .mv (.t 55), none⟩ ::
⟨(some 9), .mv (.t 56), none⟩ :: []) (fullB 18) false)
 (.seq
 (.reg [⟨(some 58), .mv (.t 7), none⟩,
⟨(some 59), .mv (.t 1), none⟩,
⟨(some 60), .idxA 2 3 (.t 5) (.k (.d (.int .i64 0))), none⟩,
⟨(some 61), .fld 0 (.t 60), none⟩,
⟨(some 62), .load (some 2) (.t 61), none⟩,
⟨(some 63), .idxA 2 3 (.t 5) (.k (.d (.int .i64 0))), none⟩,
⟨(some 64), .fld 2 (.t 63), none⟩,
⟨(some 65), .load none (.t 64), none⟩,
⟨(some 66), .call (.k (.fn (.func 46) [] [])) [(.t 58), (.t 59), (.t 62), (.t 65)], none⟩,
⟨(some 57), .mv (.t 66), none⟩,
⟨(some 67), .ext 0 (.t 57), none⟩,
⟨(some 68), .ext 1 (.t 57), none⟩,
⟨(some 10), .mv (.t 67), none⟩,
⟨(some 11), .mv (.t 68), none⟩] (fullB 14) false)
 (.seq
 (.seq
 (.reg [⟨(some 69), .mv (.t 11), none⟩,
⟨(some 70), .bin .neq (.t 69) (.k (.d (.int .i64 0))), none⟩] (fullB 2) false)
 (.cond (.t 70)
  (.seq
  (.reg [⟨(some 71), .mv (.t 9), none⟩,
⟨(some 72), .mv (.t 11), none⟩,
⟨(some 73), .bin .eql (.t 71) (.t 72), none⟩,
⟨(some 74), .mv (.t 73), none⟩,
⟨(some 75), .call (.k (.fn (.func 45) [] [])) [], some (74, true)⟩,
⟨(some 76), .pick (.t 74) (.t 75) (.k (.d (.bool false))), none⟩,
⟨(some 6), .mv (.t 76), none⟩] (fullB 7) false)
  .ret)
  .skip))
 (.seq
 (.reg [⟨(some 78), .mv (.t 7), none⟩,
⟨(some 79), .mv (.t 10), none⟩,
⟨(some 80), .idxA 2 3 (.t 5) (.k (.d (.int .i64 0))), none⟩,
⟨(some 81), .fld 0 (.t 80), none⟩,
⟨(some 82), .load (some 2) (.t 81), none⟩,
⟨(some 83), .idxA 2 3 (.t 5) (.k (.d (.int .i64 1))), none⟩,
⟨(some 84), .fld 2 (.t 83), none⟩,
⟨(some 85), .load none (.t 84), none⟩,
⟨(some 86), .call (.k (.fn (.func 46) [] [])) [(.t 78), (.t 79), (.t 82), (.t 85)], none⟩,
⟨(some 77), .mv (.t 86), none⟩,
⟨(some 87), .ext 0 (.t 77), none⟩,
⟨(some 88), .ext 1 (.t 77), none⟩,
⟨(some 12), .mv (.t 87), none⟩,
⟨(some 13), .mv (.t 88), none⟩] (fullB 14) false)
 (.seq
  (.reg (⟨(some 89), .mv (.t 9), none⟩ ::
⟨(some 90), .mv (.t 13), none⟩ ::
⟨(some 91), .bin .eql (.t 89) (.t 90), none⟩ ::
⟨(some 92), .mv (.t 91), none⟩ ::
⟨(some 93), .mv (.t 9), some (92, true)⟩ ::
⟨(some 94), .bin .neq (.t 93) (.k (.d (.int .i64 0))), some (92, true)⟩ ::
⟨(some 95), .mv (.t 94), some (92, true)⟩ ::
⟨(some 96), .mv (.t 8), some (95, false)⟩ ::
⟨(some 97), .mv (.t 12), some (95, false)⟩ ::
⟨(some 98), .call (.k (.fn (.func 47) [] [])) [(.t 96), (.t 97)], some (95, false)⟩ ::
⟨(some 99), .pick (.t 95) (.k (.d (.bool true))) (.t 98), some (92, true)⟩ ::
⟨(some 100), .pick (.t 92) (.t 99) (.k (.d (.bool false))), none⟩ ::
⟨(some 101), .mv (.t 100), none⟩ ::
⟨(some 102), .call (.k (.fn (.func 45) [] [])) [], some (101, true)⟩ ::
⟨(some 103), .pick (.t 101) (.t 102) (.k (.d (.bool false))), none⟩ ::
⟨(some 6), .mv (.t 103), none⟩ :: []) (fullB 16) false)
  .ret))))))))
def rv : List RV := [.tmp 6]
theorem c : cK Try.prog Try.f11.ntmps (Try.f11.body.getD .ret) = some s := by kernel_rfl
theorem b : Try.f11.body = some (Try.f11.body.getD .ret) := by kernel_rfl
theorem r : cRV Try.prog Try.f11.results.toList = some rv := by kernel_rfl
theorem ca : Callable Try.prog 11 = true := by kernel_rfl
theorem enter {args : List SV} {F : Hp} {k nk : Nat} {Q : SV → Hp → Prop} (hargs : SV.oks (fun n => decide (n < k)) args = true) (hF : F.ok (fun n => decide (n < k)) = true) (hN : args.length ≤ 104)
    (h : SW Try.prog 104 k s ⟨argE 0 args, F, k⟩ fun e st' => match e with | .normal => Fin k nk rv Q st' | .ret => Fin k nk rv Q st' | _ => False) : SB Try.prog 11 args F k nk Q :=
  SB.of_body Try.func11 b c r ca hargs hF hN h
end law22_ChargeParts
namespace law22_ChargeTells
abbrev f : Nat := 12
def s : SCo := (.seq
(.reg [⟨(some 5), .box 80 (.t 2), none⟩,
⟨(some 6), .mv (.k (.d (.bool false))), none⟩] (fullB 2) false)
(.seq
(.seq
(.reg [⟨(some 23), .mv (.t 0), none⟩,
⟨(some 24), .call (.k (.fn (.func 20) [] [])) [(.t 23)], none⟩,
⟨(some 25), .mv (.t 24), none⟩,
⟨(some 26), .mv (.t 0), some (25, false)⟩,
⟨(some 27), .len (.t 26), some (25, false)⟩,
⟨(some 28), .bin .gtr (.t 27) (.k (.d (.int .i64 50))), some (25, false)⟩,
⟨(some 29), .pick (.t 25) (.k (.d (.bool true))) (.t 28), none⟩,
⟨(some 30), .mv (.t 29), none⟩,
⟨(some 31), .mv (.t 1), some (30, false)⟩,
⟨(some 32), .len (.t 31), some (30, false)⟩,
⟨(some 33), .bin .gtr (.t 32) (.k (.d (.int .i64 60))), some (30, false)⟩,
⟨(some 34), .pick (.t 30) (.k (.d (.bool true))) (.t 33), none⟩] (fullB 12) false)
(.cond (.t 34)
 (.seq
 (.reg [⟨(some 35), .call (.k (.fn (.func 45) [] [])) [], none⟩,
⟨(some 6), .mv (.t 35), none⟩] (fullB 2) false)
 .ret)
 .skip))
(.seq
(.reg [⟨(some 36), .mv (.t 0), none⟩,
⟨(some 37), .call (.k (.fn (.func 22) [] [])) [(.t 36)], none⟩,
⟨(some 7), .mv (.t 37), none⟩] (fullB 3) false)
(.seq
 (.reg [⟨(some 39), .mv (.t 7), none⟩,
⟨(some 40), .mv (.t 1), none⟩,
⟨(some 41), .fld 0 (.t 5), none⟩,
⟨(some 42), .load (some 2) (.t 41), none⟩,
⟨(some 43), .call (.k (.fn (.func 48) [] [])) [(.t 39), (.t 40), (.t 42)], none⟩,
⟨(some 38), .mv (.t 43), none⟩,
⟨(some 44), .ext 0 (.t 38), none⟩,
⟨(some 45), .ext 1 (.t 38), none⟩,
⟨(some 8), .mv (.t 44), none⟩,
⟨(some 9), .mv (.t 45), none⟩] (fullB 10) false)
 (.seq
 (.reg [⟨(some 47), .mv (.t 7), none⟩,
⟨(some 48), .mv (.t 1), none⟩,
⟨(some 49), .fld 0 (.t 5), none⟩,
⟨(some 50), .load (some 2) (.t 49), none⟩,
⟨(some 51), .call (.k (.fn (.func 49) [] [])) [(.t 47), (.t 48), (.t 50)], none⟩,
⟨(some 46), .mv (.t 51), none⟩,
⟨(some 52), .ext 0 (.t 46), none⟩,
⟨(some 53), .ext 1 (.t 46), none⟩,
⟨(some 10), .alloc 33 [(.d (.int .u8 0)), (.d (.int .u32 0))], none⟩,
⟨none, .store 2 (.t 10) (.t 52), none⟩,
⟨(some 11), .mv (.t 53), none⟩] (fullB 11) false)
 (.seq
 (.reg [⟨(some 55), .mv (.t 0), none⟩,
⟨(some 56), .mv (.t 1), none⟩,
⟨(some 57), .fld 0 (.t 5), none⟩,
⟨(some 58), .load (some 2) (.t 57), none⟩,
⟨(some 59), .call (.k (.fn (.func 50) [] [])) [(.t 55), (.t 56), (.t 58)], none⟩,
⟨(some 54), .mv (.t 59), none⟩,
⟨(some 60), .ext 0 (.t 54), none⟩,
⟨(some 61), .ext 1 (.t 54), none⟩,
⟨(some 62), .ext 2 (.t 54), none⟩,
⟨(some 12), .alloc 33 [(.d (.int .u8 0)), (.d (.int .u32 0))], none⟩,
⟨none, .store 2 (.t 12) (.t 60), none⟩,
⟨(some 13), .mv (.t 61), none⟩,
⟨(some 14), .mv (.t 62), none⟩] (fullB 13) false)
 (.seq
 (.reg [⟨(some 64), .mv (.t 7), none⟩,
⟨(some 65), .mv (.t 1), none⟩,
⟨(some 66), .fld 0 (.t 5), none⟩,
⟨(some 67), .load (some 2) (.t 66), none⟩,
⟨(some 68), .fld 2 (.t 5), none⟩,
⟨(some 69), .load none (.t 68), none⟩,
⟨(some 70), .call (.k (.fn (.func 46) [] [])) [(.t 64), (.t 65), (.t 67), (.t 69)], none⟩,
⟨(some 63), .mv (.t 70), none⟩,
⟨(some 71), .ext 0 (.t 63), none⟩,
⟨(some 72), .ext 1 (.t 63), none⟩,
⟨(some 15), .mv (.t 71), none⟩,
⟨(some 16), .mv (.t 72), none⟩] (fullB 12) false)
 (.seq
  (.reg [⟨(some 74), .mv (.t 0), none⟩,
⟨(some 75), .mv (.t 1), none⟩,
⟨(some 76), .fld 0 (.t 5), none⟩,
⟨(some 77), .load (some 2) (.t 76), none⟩,
⟨(some 78), .fld 2 (.t 5), none⟩,
⟨(some 79), .load none (.t 78), none⟩,
⟨(some 80), .call (.k (.fn (.func 51) [] [])) [(.t 74), (.t 75), (.t 77), (.t 79)], none⟩,
⟨(some 73), .mv (.t 80), none⟩,
⟨(some 81), .ext 0 (.t 73), none⟩,
⟨(some 82), .ext 1 (.t 73), none⟩,
⟨(some 17), .mv (.t 81), none⟩,
⟨(some 18), .mv (.t 82), none⟩] (fullB 12) false)
  (.seq
  (.seq
  (.reg (⟨(some 83), .mv (.t 8), none⟩ ::
⟨(some 84), .mv (.t 13), none⟩ ::
⟨(some 85), .bin .neq (.t 83) (.t 84), none⟩ ::
⟨(some 86), .mv (.t 85), none⟩ ::
⟨(some 87), .load (some 2) (.t 10), some (86, false)⟩ ::
⟨(some 88), .load (some 2) (.t 12), some (86, false)⟩ ::
⟨(some 89), .eqv true [true, true] (.t 87) (.t 88), some (86, false)⟩ ::
⟨(some 90), .pick (.t 86) (.k (.d (.bool true))) (.t 89), none⟩ ::
⟨(some 91), .mv (.t 90), none⟩ ::
⟨(some 92), .mv (.t 9), some (91, false)⟩ ::
⟨(some 93), .mv (.t 14), some (91, false)⟩ ::
⟨(some 94), .bin .neq (.t 92) (.t 93), some (91, false)⟩ ::
⟨(some 95), .pick (.t 91) (.k (.d (.bool true))) (.t 94), none⟩ ::
⟨(some 96), .mv (.t 95), none⟩ ::
⟨(some 97), .mv (.t 11), some (96, false)⟩ ::
⟨(some 98), .mv (.t 14), some (96, false)⟩ ::
⟨(some 99), .bin .neq (.t 97) (.t 98), some (96, false)⟩ ::
⟨(some 100), .pick (.t 96) (.k (.d (.bool true))) (.t 99), none⟩ ::
⟨(some 101), .mv (.t 100), none⟩ ::
⟨(some 102), .mv (.t 15), some (101, false)⟩ ::
⟨(some 103), .mv (.t 17), some (101, false)⟩ ::
⟨(some 104), .call (.k (.fn (.func 47) [] [])) [(.t 102), (.t 103)], some (101, false)⟩ ::
⟨(some 105), .not (.t 104), some (101, false)⟩ ::
⟨(some 106), .pick (.t 101) (.k (.d (.bool true))) (.t 105), none⟩ ::
⟨(some 107), .mv (.t 106), none⟩ ::
⟨(some 108), .mv (.t 16), some (107, false)⟩ ::
⟨(some 109), .mv (.t 18), some (107, false)⟩ ::
⟨(some 110), .bin .neq (.t 108) (.t 109), some (107, false)⟩ ::
⟨(some 111), .pick (.t 107) (.k (.d (.bool true))) (.t 110), none⟩ ::
⟨(some 112), .mv (.t 111), none⟩ ::
⟨(some 113), .mv (.t 1), some (112, false)⟩ ::
⟨(some 114), .fld 0 (.t 5), some (112, false)⟩ ::
⟨(some 115), .load (some 2) (.t 114), some (112, false)⟩ ::
⟨(some 116), .call (.k (.fn (.func 52) [] [])) [(.t 113), (.t 115)], some (112, false)⟩ ::
⟨(some 117), .mv (.t 1), some (112, false)⟩ ::
⟨(some 118), .fld 0 (.t 5), some (112, false)⟩ ::
⟨(some 119), .load (some 2) (.t 118), some (112, false)⟩ ::
⟨(some 120), .call (.k (.fn (.func 53) [] [])) [(.t 117), (.t 119)], some (112, false)⟩ ::
⟨(some 121), .bin .neq (.t 116) (.t 120), some (112, false)⟩ ::
⟨(some 122), .pick (.t 112) (.k (.d (.bool true))) (.t 121), none⟩ :: []) (0 ::
0 ::
3 ::
7 ::
15 ::
15 ::
63 ::
127 ::
255 ::
511 ::
511 ::
2047 ::
4095 ::
8191 ::
16383 ::
16383 ::
65535 ::
131071 ::
262143 ::
524287 ::
524287 ::
2097151 ::
4194303 ::
8388607 ::
16777215 ::
33554431 ::
33554431 ::
134217727 ::
268435455 ::
536870911 ::
1073741823 ::
1073741823 ::
3221225471 ::
8589934591 ::
1073741823 ::
1073741823 ::
35433480191 ::
137438953471 ::
274877906943 ::
549755813887 :: []) true)
  (.cond (.t 122)
  (.seq
   (.reg [⟨(some 6), .mv (.k (.d (.bool false))), none⟩] (fullB 1) false)
   .ret)
  .skip))
  (.seq
  (.reg [⟨(some 124), .mv (.t 1), none⟩,
⟨(some 125), .fld 0 (.t 5), none⟩,
⟨(some 126), .load (some 2) (.t 125), none⟩,
⟨(some 127), .call (.k (.fn (.func 48) [] [])) [(.k (.d .nilp)), (.t 124), (.t 126)], none⟩,
⟨(some 123), .mv (.t 127), none⟩,
⟨(some 128), .ext 0 (.t 123), none⟩,
⟨(some 129), .ext 1 (.t 123), none⟩,
⟨(some 19), .mv (.t 128), none⟩,
⟨(some 20), .mv (.t 129), none⟩] (fullB 9) false)
  (.seq
  (.reg [⟨(some 131), .mv (.t 1), none⟩,
⟨(some 132), .fld 0 (.t 5), none⟩,
⟨(some 133), .load (some 2) (.t 132), none⟩,
⟨(some 134), .call (.k (.fn (.func 46) [] [])) [(.k (.d .nilp)), (.t 131), (.t 133), (.k (.d (.int .u64 1)))], none⟩,
⟨(some 130), .mv (.t 134), none⟩,
⟨(some 135), .ext 0 (.t 130), none⟩,
⟨(some 136), .ext 1 (.t 130), none⟩,
⟨(some 21), .mv (.t 135), none⟩,
⟨(some 22), .mv (.t 136), none⟩] (fullB 9) false)
  (.seq
   (.reg [⟨(some 137), .mv (.t 20), none⟩,
⟨(some 138), .bin .eql (.t 137) (.k (.d (.int .i64 1))), none⟩,
⟨(some 139), .mv (.t 138), none⟩,
⟨(some 140), .mv (.t 22), some (139, true)⟩,
⟨(some 141), .bin .eql (.t 140) (.k (.d (.int .i64 1))), some (139, true)⟩,
⟨(some 142), .pick (.t 139) (.t 141) (.k (.d (.bool false))), none⟩,
⟨(some 143), .mv (.t 142), none⟩,
⟨(some 144), .call (.k (.fn (.func 45) [] [])) [], some (143, true)⟩,
⟨(some 145), .pick (.t 143) (.t 144) (.k (.d (.bool false))), none⟩,
⟨(some 6), .mv (.t 145), none⟩] (fullB 10) false)
   .ret))))))))))))
def rv : List RV := [.tmp 6]
theorem c : cK Try.prog Try.f12.ntmps (Try.f12.body.getD .ret) = some s := by kernel_rfl
theorem b : Try.f12.body = some (Try.f12.body.getD .ret) := by kernel_rfl
theorem r : cRV Try.prog Try.f12.results.toList = some rv := by kernel_rfl
theorem ca : Callable Try.prog 12 = true := by kernel_rfl
theorem enter {args : List SV} {F : Hp} {k nk : Nat} {Q : SV → Hp → Prop} (hargs : SV.oks (fun n => decide (n < k)) args = true) (hF : F.ok (fun n => decide (n < k)) = true) (hN : args.length ≤ 146)
    (h : SW Try.prog 146 k s ⟨argE 0 args, F, k⟩ fun e st' => match e with | .normal => Fin k nk rv Q st' | .ret => Fin k nk rv Q st' | _ => False) : SB Try.prog 12 args F k nk Q :=
  SB.of_body Try.func12 b c r ca hargs hF hN h
end law22_ChargeTells
namespace law22_ChargeCaps
abbrev f : Nat := 13
def s : SCo := (.seq
(.reg [⟨(some 4), .mv (.k (.d (.bool false))), none⟩] (fullB 1) false)
(.seq
(.seq
(.reg [⟨(some 18), .mv (.t 0), none⟩,
⟨(some 19), .call (.k (.fn (.func 20) [] [])) [(.t 18)], none⟩,
⟨(some 20), .mv (.t 19), none⟩,
⟨(some 21), .mv (.t 0), some (20, false)⟩,
⟨(some 22), .len (.t 21), some (20, false)⟩,
⟨(some 23), .bin .gtr (.t 22) (.k (.d (.int .i64 50))), some (20, false)⟩,
⟨(some 24), .pick (.t 20) (.k (.d (.bool true))) (.t 23), none⟩] (fullB 7) false)
(.cond (.t 24)
 (.seq
 (.reg [⟨(some 25), .call (.k (.fn (.func 45) [] [])) [], none⟩,
⟨(some 4), .mv (.t 25), none⟩] (fullB 2) false)
 .ret)
 .skip))
(.seq
(.reg [⟨(some 26), .mv (.t 0), none⟩,
⟨(some 27), .call (.k (.fn (.func 22) [] [])) [(.t 26)], none⟩,
⟨(some 5), .mv (.t 27), none⟩] (fullB 3) false)
(.seq
 (.reg [⟨(some 6), .mv (.k (.d .nils)), none⟩] (fullB 1) false)
 (.seq
 (.seq
 (.reg [⟨(some 7), .mv (.k (.d (.int .i64 0))), none⟩] (fullB 1) false)
 (.block 0
 (.loop
  (.seq
  (.seq
  (.reg [⟨(some 28), .mv (.t 7), none⟩,
⟨(some 29), .mv (.t 1), none⟩,
⟨(some 30), .len (.t 29), none⟩,
⟨(some 31), .bin .lss (.t 28) (.t 30), none⟩,
⟨(some 32), .mv (.t 31), none⟩,
⟨(some 33), .mv (.t 7), some (32, true)⟩,
⟨(some 34), .bin .lss (.t 33) (.k (.d (.int .i64 30))), some (32, true)⟩,
⟨(some 35), .pick (.t 32) (.t 34) (.k (.d (.bool false))), none⟩] (fullB 8) false)
  (.cond (.t 35)
  .skip
  (.exit 0)))
  (.seq
  (.block 1
  (.seq
   (.reg [⟨(some 39), .mv (.t 5), none⟩,
⟨(some 40), .mv (.t 6), none⟩,
⟨(some 41), .mv (.t 1), none⟩,
⟨(some 42), .mv (.t 7), none⟩,
⟨(some 43), .idxS 3 (.t 41) (.t 42), none⟩,
⟨(some 44), .fld 0 (.t 43), none⟩,
⟨(some 45), .load (some 2) (.t 44), none⟩,
⟨(some 46), .call (.k (.fn (.func 48) [] [])) [(.t 39), (.t 40), (.t 45)], none⟩,
⟨(some 38), .mv (.t 46), none⟩,
⟨(some 47), .ext 0 (.t 38), none⟩,
⟨(some 48), .ext 1 (.t 38), none⟩,
⟨(some 8), .mv (.t 47), none⟩,
⟨(some 9), .mv (.t 48), none⟩] (fullB 13) false)
   (.seq
   (.reg (⟨(some 50), .mv (.t 5), none⟩ ::
⟨(some 51), .mv (.t 6), none⟩ ::
⟨(some 52), .mv (.t 1), none⟩ ::
⟨(some 53), .mv (.t 7), none⟩ ::
⟨(some 54), .idxS 3 (.t 52) (.t 53), none⟩ ::
⟨(some 55), .fld 0 (.t 54), none⟩ ::
⟨(some 56), .load (some 2) (.t 55), none⟩ ::
⟨(some 57), .mv (.t 1), none⟩ ::
⟨(some 58), .mv (.t 7), none⟩ ::
⟨(some 59), .idxS 3 (.t 57) (.t 58), none⟩ ::
⟨(some 60), .fld 2 (.t 59), none⟩ ::
⟨(some 61), .load none (.t 60), none⟩ ::
⟨(some 62), .call (.k (.fn (.func 46) [] [])) [(.t 50), (.t 51), (.t 56), (.t 61)], none⟩ ::
⟨(some 49), .mv (.t 62), none⟩ ::
⟨(some 63), .ext 0 (.t 49), none⟩ ::
⟨(some 64), .ext 1 (.t 49), none⟩ ::
⟨(some 10), .mv (.t 63), none⟩ ::
⟨(some 11), .mv (.t 64), none⟩ :: []) (0 ::
0 ::
0 ::
0 ::
12 ::
28 ::
60 ::
0 ::
0 ::
384 ::
896 ::
1920 ::
4095 ::
8191 ::
16383 ::
16383 ::
32767 ::
131071 :: []) true)
   (.seq
   (.reg [⟨(some 66), .mv (.t 5), none⟩,
⟨(some 67), .mv (.t 10), none⟩,
⟨(some 68), .mv (.t 1), none⟩,
⟨(some 69), .mv (.t 7), none⟩,
⟨(some 70), .idxS 3 (.t 68) (.t 69), none⟩,
⟨(some 71), .fld 0 (.t 70), none⟩,
⟨(some 72), .load (some 2) (.t 71), none⟩,
⟨(some 73), .call (.k (.fn (.func 48) [] [])) [(.t 66), (.t 67), (.t 72)], none⟩,
⟨(some 65), .mv (.t 73), none⟩,
⟨(some 74), .ext 0 (.t 65), none⟩,
⟨(some 75), .ext 1 (.t 65), none⟩,
⟨(some 12), .mv (.t 74), none⟩,
⟨(some 13), .mv (.t 75), none⟩] (fullB 13) false)
   (.seq
   (.seq
    (.reg [⟨(some 76), .mv (.t 9), none⟩,
⟨(some 77), .bin .neq (.t 76) (.k (.d (.int .i64 0))), none⟩] (fullB 2) false)
    (.cond (.t 77)
    (.seq
    (.seq
    (.reg [⟨(some 78), .mv (.t 11), none⟩,
⟨(some 79), .mv (.t 9), none⟩,
⟨(some 80), .bin .neq (.t 78) (.t 79), none⟩,
⟨(some 81), .mv (.t 80), none⟩,
⟨(some 82), .mv (.t 10), some (81, false)⟩,
⟨(some 83), .len (.t 82), some (81, false)⟩,
⟨(some 84), .bin .neq (.t 83) (.k (.d (.int .i64 0))), some (81, false)⟩,
⟨(some 85), .pick (.t 81) (.k (.d (.bool true))) (.t 84), none⟩] (fullB 8) false)
    (.cond (.t 85)
     (.seq
     (.reg [⟨(some 4), .mv (.k (.d (.bool false))), none⟩] (fullB 1) false)
     .ret)
     .skip))
    (.exit 1))
    .skip))
   (.seq
    (.seq
    (.reg (⟨(some 86), .mv (.t 11), none⟩ ::
⟨(some 87), .bin .eql (.t 86) (.k (.d (.int .i64 0))), none⟩ ::
⟨(some 88), .mv (.t 1), none⟩ ::
⟨(some 89), .mv (.t 7), none⟩ ::
⟨(some 90), .idxS 3 (.t 88) (.t 89), none⟩ ::
⟨(some 91), .fld 2 (.t 90), none⟩ ::
⟨(some 92), .load none (.t 91), none⟩ ::
⟨(some 93), .mv (.t 8), none⟩ ::
⟨(some 94), .bin .leq (.t 92) (.t 93), none⟩ ::
⟨(some 95), .eqb true (.t 87) (.t 94), none⟩ ::
⟨(some 96), .mv (.t 95), none⟩ ::
⟨(some 97), .mv (.t 11), some (96, false)⟩ ::
⟨(some 98), .bin .eql (.t 97) (.k (.d (.int .i64 0))), some (96, false)⟩ ::
⟨(some 99), .mv (.t 98), some (96, false)⟩ ::
⟨(some 100), .mv (.t 12), some (99, true)⟩ ::
⟨(some 101), .mv (.t 8), some (99, true)⟩ ::
⟨(some 102), .mv (.t 1), some (99, true)⟩ ::
⟨(some 103), .mv (.t 7), some (99, true)⟩ ::
⟨(some 104), .idxS 3 (.t 102) (.t 103), some (99, true)⟩ ::
⟨(some 105), .fld 2 (.t 104), some (99, true)⟩ ::
⟨(some 106), .load none (.t 105), some (99, true)⟩ ::
⟨(some 107), .bin .sub (.t 101) (.t 106), some (99, true)⟩ ::
⟨(some 108), .bin .neq (.t 100) (.t 107), some (99, true)⟩ ::
⟨(some 109), .pick (.t 99) (.t 108) (.k (.d (.bool false))), some (96, false)⟩ ::
⟨(some 110), .pick (.t 96) (.k (.d (.bool true))) (.t 109), none⟩ ::
⟨(some 111), .mv (.t 110), none⟩ ::
⟨(some 112), .mv (.t 11), some (111, false)⟩ ::
⟨(some 113), .bin .neq (.t 112) (.k (.d (.int .i64 0))), some (111, false)⟩ ::
⟨(some 114), .mv (.t 113), some (111, false)⟩ ::
⟨(some 115), .mv (.t 11), some (114, true)⟩ ::
⟨(some 116), .bin .neq (.t 115) (.k (.d (.int .i64 279))), some (114, true)⟩ ::
⟨(some 117), .mv (.t 116), some (114, true)⟩ ::
⟨(some 118), .mv (.t 10), some (117, false)⟩ ::
⟨(some 119), .mv (.t 6), some (117, false)⟩ ::
⟨(some 120), .call (.k (.fn (.func 47) [] [])) [(.t 118), (.t 119)], some (117, false)⟩ ::
⟨(some 121), .not (.t 120), some (117, false)⟩ ::
⟨(some 122), .pick (.t 117) (.k (.d (.bool true))) (.t 121), some (114, true)⟩ ::
⟨(some 123), .pick (.t 114) (.t 122) (.k (.d (.bool false))), some (111, false)⟩ ::
⟨(some 124), .pick (.t 111) (.k (.d (.bool true))) (.t 123), none⟩ :: []) (fullB 39) false)
    (.cond (.t 124)
    (.seq
    (.reg [⟨(some 4), .mv (.k (.d (.bool false))), none⟩] (fullB 1) false)
    .ret)
    .skip))
    (.reg [⟨(some 125), .mv (.t 10), none⟩,
⟨(some 6), .mv (.t 125), none⟩] (fullB 2) false)))))))
  (.reg [⟨(some 36), .mv (.t 7), none⟩,
⟨(some 37), .bin .add (.t 36) (.k (.d (.int .i64 1))), none⟩,
⟨(some 7), .mv (.t 37), none⟩] (fullB 3) false))))))
 (.seq
 (.seq
 (.reg [⟨(some 14), .mv (.k (.d (.int .i64 0))), none⟩] (fullB 1) false)
 (.block 2
  (.loop
  (.seq
  (.seq
  (.reg [⟨(some 126), .mv (.t 14), none⟩,
⟨(some 127), .mv (.t 0), none⟩,
⟨(some 128), .len (.t 127), none⟩,
⟨(some 129), .bin .lss (.t 126) (.t 128), none⟩] (fullB 4) false)
  (.cond (.t 129)
   .skip
   (.exit 2)))
  (.seq
  (.block 3
   (.seq
   (.reg [⟨(some 133), .mv (.t 0), none⟩,
⟨(some 134), .mv (.t 0), none⟩,
⟨(some 135), .mv (.t 14), none⟩,
⟨(some 136), .idxS 29 (.t 134) (.t 135), none⟩,
⟨(some 137), .fld 0 (.t 136), none⟩,
⟨(some 138), .load (some 2) (.t 137), none⟩,
⟨(some 139), .call (.k (.fn (.func 35) [] [])) [(.t 133), (.t 138)], none⟩,
⟨(some 132), .mv (.t 139), none⟩,
⟨(some 140), .ext 0 (.t 132), none⟩,
⟨(some 141), .ext 1 (.t 132), none⟩,
⟨(some 15), .alloc 41 [(.d (.int .u8 0)), (.d (.int .u32 0)), (.d (.int .u8 0)), (.d (.int .u32 0)), (.d (.int .u8 0)), (.d (.int .u32 0)), (.d (.int .u32 0)), (.d (.int .u8 0)), (.d (.int .u8 0)), (.d (.int .u64 0)), (.d (.int .i64 0))], none⟩,
⟨none, .store 11 (.t 15) (.t 140), none⟩,
⟨(some 16), .mv (.t 141), none⟩] (fullB 13) false)
   (.seq
   (.reg [⟨(some 142), .mv (.t 6), none⟩,
⟨(some 143), .mv (.t 0), none⟩,
⟨(some 144), .mv (.t 14), none⟩,
⟨(some 145), .idxS 29 (.t 143) (.t 144), none⟩,
⟨(some 146), .fld 0 (.t 145), none⟩,
⟨(some 147), .load (some 2) (.t 146), none⟩,
⟨(some 148), .call (.k (.fn (.func 52) [] [])) [(.t 142), (.t 147)], none⟩,
⟨(some 17), .mv (.t 148), none⟩] (fullB 8) false)
   (.seq
   (.reg (⟨(some 149), .mv (.t 16), none⟩ ::
⟨(some 150), .mv (.t 149), none⟩ ::
⟨(some 151), .mv (.t 17), some (150, true)⟩ ::
⟨(some 152), .fld 9 (.t 15), some (150, true)⟩ ::
⟨(some 153), .load none (.t 152), some (150, true)⟩ ::
⟨(some 154), .bin .gtr (.t 151) (.t 153), some (150, true)⟩ ::
⟨(some 155), .mv (.t 154), some (150, true)⟩ ::
⟨(some 156), .fld 10 (.t 15), some (155, false)⟩ ::
⟨(some 157), .load none (.t 156), some (155, false)⟩ ::
⟨(some 158), .bin .gtr (.t 157) (.k (.d (.int .i64 0))), some (155, false)⟩ ::
⟨(some 159), .mv (.t 158), some (155, false)⟩ ::
⟨(some 160), .mv (.t 6), some (159, true)⟩ ::
⟨(some 161), .fld 4 (.t 15), some (159, true)⟩ ::
⟨(some 162), .load (some 2) (.t 161), some (159, true)⟩ ::
⟨(some 163), .call (.k (.fn (.func 52) [] [])) [(.t 160), (.t 162)], some (159, true)⟩ ::
⟨(some 164), .mv (.t 17), some (159, true)⟩ ::
⟨(some 165), .bin .lss (.t 163) (.t 164), some (159, true)⟩ ::
⟨(some 166), .pick (.t 159) (.t 165) (.k (.d (.bool false))), some (155, false)⟩ ::
⟨(some 167), .pick (.t 155) (.k (.d (.bool true))) (.t 166), some (150, true)⟩ ::
⟨(some 168), .pick (.t 150) (.t 167) (.k (.d (.bool false))), none⟩ ::
⟨(some 169), .mv (.t 168), none⟩ ::
⟨(some 170), .mv (.t 16), some (169, false)⟩ ::
⟨(some 171), .not (.t 170), some (169, false)⟩ ::
⟨(some 172), .mv (.t 171), some (169, false)⟩ ::
⟨(some 173), .mv (.t 17), some (172, true)⟩ ::
⟨(some 174), .bin .neq (.t 173) (.k (.d (.int .u64 0))), some (172, true)⟩ ::
⟨(some 175), .pick (.t 172) (.t 174) (.k (.d (.bool false))), some (169, false)⟩ ::
⟨(some 176), .pick (.t 169) (.k (.d (.bool true))) (.t 175), none⟩ :: []) (fullB 28) false)
   (.cond (.t 176)
    (.seq
    (.reg [⟨(some 4), .mv (.k (.d (.bool false))), none⟩] (fullB 1) false)
    .ret)
    .skip)))))
  (.reg [⟨(some 130), .mv (.t 14), none⟩,
⟨(some 131), .bin .add (.t 130) (.k (.d (.int .i64 1))), none⟩,
⟨(some 14), .mv (.t 131), none⟩] (fullB 3) false))))))
 (.seq
 (.reg [⟨(some 177), .call (.k (.fn (.func 45) [] [])) [], none⟩,
⟨(some 4), .mv (.t 177), none⟩] (fullB 2) false)
 .ret)))))))
def rv : List RV := [.tmp 4]
theorem c : cK Try.prog Try.f13.ntmps (Try.f13.body.getD .ret) = some s := by kernel_rfl
theorem b : Try.f13.body = some (Try.f13.body.getD .ret) := by kernel_rfl
theorem r : cRV Try.prog Try.f13.results.toList = some rv := by kernel_rfl
theorem ca : Callable Try.prog 13 = true := by kernel_rfl
theorem enter {args : List SV} {F : Hp} {k nk : Nat} {Q : SV → Hp → Prop} (hargs : SV.oks (fun n => decide (n < k)) args = true) (hF : F.ok (fun n => decide (n < k)) = true) (hN : args.length ≤ 178)
    (h : SW Try.prog 178 k s ⟨argE 0 args, F, k⟩ fun e st' => match e with | .normal => Fin k nk rv Q st' | .ret => Fin k nk rv Q st' | _ => False) : SB Try.prog 13 args F k nk Q :=
  SB.of_body Try.func13 b c r ca hargs hF hN h
end law22_ChargeCaps
namespace law22_head
abbrev f : Nat := 45
def s : SCo := (.seq
(.reg [⟨(some 0), .mv (.k (.d (.bool false))), none⟩] (fullB 1) false)
(.seq
(.reg [⟨(some 24), .call (.k (.fn (.func 112) [] [])) [], none⟩,
⟨(some 25), .call (.k (.fn (.func 22) [] [])) [(.t 24)], none⟩,
⟨(some 1), .mv (.t 25), none⟩] (fullB 3) false)
(.seq
(.reg [⟨(some 27), .mv (.t 1), none⟩,
⟨(some 28), .bld [(.d (.int .u8 0)), (.d (.int .u32 0))] [(1, 1, (.k (.d (.int .u32 3))))], none⟩,
⟨(some 29), .call (.k (.fn (.func 48) [] [])) [(.t 27), (.k (.d .nils)), (.t 28)], none⟩,
⟨(some 26), .mv (.t 29), none⟩,
⟨(some 30), .ext 0 (.t 26), none⟩,
⟨(some 31), .ext 1 (.t 26), none⟩,
⟨(some 2), .mv (.t 30), none⟩,
⟨(some 3), .mv (.t 31), none⟩] (fullB 8) false)
(.seq
 (.reg [⟨(some 33), .mv (.t 1), none⟩,
⟨(some 34), .bld [(.d (.int .u8 0)), (.d (.int .u32 0))] [(1, 1, (.k (.d (.int .u32 3))))], none⟩,
⟨(some 35), .call (.k (.fn (.func 49) [] [])) [(.t 33), (.k (.d .nils)), (.t 34)], none⟩,
⟨(some 32), .mv (.t 35), none⟩,
⟨(some 36), .ext 0 (.t 32), none⟩,
⟨(some 37), .ext 1 (.t 32), none⟩,
⟨(some 4), .alloc 33 [(.d (.int .u8 0)), (.d (.int .u32 0))], none⟩,
⟨none, .store 2 (.t 4) (.t 36), none⟩,
⟨(some 5), .mv (.t 37), none⟩] (fullB 9) false)
 (.seq
 (.reg [⟨(some 39), .mv (.t 1), none⟩,
⟨(some 40), .bld [(.d (.int .u8 0)), (.d (.int .u32 0))] [(1, 1, (.k (.d (.int .u32 3))))], none⟩,
⟨(some 41), .call (.k (.fn (.func 46) [] [])) [(.t 39), (.k (.d .nils)), (.t 40), (.k (.d (.int .u64 60)))], none⟩,
⟨(some 38), .mv (.t 41), none⟩,
⟨(some 42), .ext 0 (.t 38), none⟩,
⟨(some 43), .ext 1 (.t 38), none⟩,
⟨(some 6), .mv (.t 42), none⟩,
⟨(some 7), .mv (.t 43), none⟩] (fullB 8) false)
 (.seq
 (.reg [⟨(some 45), .mv (.t 1), none⟩,
⟨(some 46), .mv (.t 6), none⟩,
⟨(some 47), .bld [(.d (.int .u8 0)), (.d (.int .u32 0))] [(1, 1, (.k (.d (.int .u32 3))))], none⟩,
⟨(some 48), .call (.k (.fn (.func 48) [] [])) [(.t 45), (.t 46), (.t 47)], none⟩,
⟨(some 44), .mv (.t 48), none⟩,
⟨(some 49), .ext 0 (.t 44), none⟩,
⟨(some 50), .ext 1 (.t 44), none⟩,
⟨(some 8), .mv (.t 49), none⟩,
⟨(some 9), .mv (.t 50), none⟩] (fullB 9) false)
 (.seq
 (.reg [⟨(some 52), .mv (.t 1), none⟩,
⟨(some 53), .mv (.t 6), none⟩,
⟨(some 54), .bld [(.d (.int .u8 0)), (.d (.int .u32 0))] [(1, 1, (.k (.d (.int .u32 2))))], none⟩,
⟨(some 55), .call (.k (.fn (.func 48) [] [])) [(.t 52), (.t 53), (.t 54)], none⟩,
⟨(some 51), .mv (.t 55), none⟩,
⟨(some 56), .ext 0 (.t 51), none⟩,
⟨(some 57), .ext 1 (.t 51), none⟩,
⟨(some 10), .mv (.t 56), none⟩,
⟨(some 11), .mv (.t 57), none⟩] (fullB 9) false)
 (.seq
  (.reg [⟨(some 59), .mv (.t 1), none⟩,
⟨(some 60), .mv (.t 6), none⟩,
⟨(some 61), .bld [(.d (.int .u8 0)), (.d (.int .u32 0))] [(1, 1, (.k (.d (.int .u32 1))))], none⟩,
⟨(some 62), .call (.k (.fn (.func 48) [] [])) [(.t 59), (.t 60), (.t 61)], none⟩,
⟨(some 58), .mv (.t 62), none⟩,
⟨(some 63), .ext 0 (.t 58), none⟩,
⟨(some 64), .ext 1 (.t 58), none⟩,
⟨(some 12), .mv (.t 63), none⟩,
⟨(some 13), .mv (.t 64), none⟩] (fullB 9) false)
  (.seq
  (.reg [⟨(some 66), .mv (.t 1), none⟩,
⟨(some 67), .mv (.t 6), none⟩,
⟨(some 68), .bld [(.d (.int .u8 0)), (.d (.int .u32 0))] [(1, 1, (.k (.d (.int .u32 3))))], none⟩,
⟨(some 69), .call (.k (.fn (.func 46) [] [])) [(.t 66), (.t 67), (.t 68), (.k (.d (.int .u64 41)))], none⟩,
⟨(some 65), .mv (.t 69), none⟩,
⟨(some 70), .ext 0 (.t 65), none⟩,
⟨(some 71), .ext 1 (.t 65), none⟩,
⟨(some 14), .mv (.t 70), none⟩,
⟨(some 15), .mv (.t 71), none⟩] (fullB 9) false)
  (.seq
  (.reg [⟨(some 73), .mv (.t 1), none⟩,
⟨(some 74), .mv (.t 6), none⟩,
⟨(some 75), .bld [(.d (.int .u8 0)), (.d (.int .u32 0))] [(1, 1, (.k (.d (.int .u32 2))))], none⟩,
⟨(some 76), .call (.k (.fn (.func 46) [] [])) [(.t 73), (.t 74), (.t 75), (.k (.d (.int .u64 440)))], none⟩,
⟨(some 72), .mv (.t 76), none⟩,
⟨(some 77), .ext 0 (.t 72), none⟩,
⟨(some 78), .ext 1 (.t 72), none⟩,
⟨(some 16), .mv (.t 77), none⟩,
⟨(some 17), .mv (.t 78), none⟩] (fullB 9) false)
  (.seq
  (.reg [⟨(some 80), .mv (.t 1), none⟩,
⟨(some 81), .mv (.t 16), none⟩,
⟨(some 82), .bld [(.d (.int .u8 0)), (.d (.int .u32 0))] [(1, 1, (.k (.d (.int .u32 3))))], none⟩,
⟨(some 83), .call (.k (.fn (.func 48) [] [])) [(.t 80), (.t 81), (.t 82)], none⟩,
⟨(some 79), .mv (.t 83), none⟩,
⟨(some 84), .ext 0 (.t 79), none⟩,
⟨(some 85), .ext 1 (.t 79), none⟩,
⟨(some 18), .mv (.t 84), none⟩,
⟨(some 19), .mv (.t 85), none⟩] (fullB 9) false)
  (.seq
   (.reg [⟨(some 87), .mv (.t 1), none⟩,
⟨(some 88), .mv (.t 16), none⟩,
⟨(some 89), .bld [(.d (.int .u8 0)), (.d (.int .u32 0))] [(1, 1, (.k (.d (.int .u32 3))))], none⟩,
⟨(some 90), .call (.k (.fn (.func 49) [] [])) [(.t 87), (.t 88), (.t 89)], none⟩,
⟨(some 86), .mv (.t 90), none⟩,
⟨(some 91), .ext 0 (.t 86), none⟩,
⟨(some 92), .ext 1 (.t 86), none⟩,
⟨(some 20), .alloc 33 [(.d (.int .u8 0)), (.d (.int .u32 0))], none⟩,
⟨none, .store 2 (.t 20) (.t 91), none⟩,
⟨(some 21), .mv (.t 92), none⟩] (fullB 10) false)
   (.seq
   (.reg [⟨(some 94), .mv (.t 1), none⟩,
⟨(some 95), .bld [(.d (.int .u8 0)), (.d (.int .u32 0))] [(1, 1, (.k (.d (.int .u32 4))))], none⟩,
⟨(some 96), .call (.k (.fn (.func 48) [] [])) [(.t 94), (.k (.d .nils)), (.t 95)], none⟩,
⟨(some 93), .mv (.t 96), none⟩,
⟨(some 97), .ext 0 (.t 93), none⟩,
⟨(some 98), .ext 1 (.t 93), none⟩,
⟨(some 22), .mv (.t 97), none⟩,
⟨(some 23), .mv (.t 98), none⟩] (fullB 8) false)
   (.seq
   (.reg (⟨(some 99), .mv (.t 2), none⟩ ::
⟨(some 100), .bin .eql (.t 99) (.k (.d (.int .u64 100))), none⟩ ::
⟨(some 101), .mv (.t 100), none⟩ ::
⟨(some 102), .mv (.t 3), some (101, true)⟩ ::
⟨(some 103), .bin .eql (.t 102) (.k (.d (.int .i64 0))), some (101, true)⟩ ::
⟨(some 104), .pick (.t 101) (.t 103) (.k (.d (.bool false))), none⟩ ::
⟨(some 105), .mv (.t 104), none⟩ ::
⟨(some 106), .load (some 2) (.t 4), some (105, true)⟩ ::
⟨(some 107), .bld [(.d (.int .u8 0)), (.d (.int .u32 0))] [(1, 1, (.k (.d (.int .u32 3))))], some (105, true)⟩ ::
⟨(some 108), .eqv false [true, true] (.t 106) (.t 107), some (105, true)⟩ ::
⟨(some 109), .pick (.t 105) (.t 108) (.k (.d (.bool false))), none⟩ ::
⟨(some 110), .mv (.t 109), none⟩ ::
⟨(some 111), .mv (.t 7), some (110, true)⟩ ::
⟨(some 112), .bin .eql (.t 111) (.k (.d (.int .i64 0))), some (110, true)⟩ ::
⟨(some 113), .pick (.t 110) (.t 112) (.k (.d (.bool false))), none⟩ ::
⟨(some 114), .mv (.t 113), none⟩ ::
⟨(some 115), .mv (.t 8), some (114, true)⟩ ::
⟨(some 116), .bin .eql (.t 115) (.k (.d (.int .u64 40))), some (114, true)⟩ ::
⟨(some 117), .pick (.t 114) (.t 116) (.k (.d (.bool false))), none⟩ ::
⟨(some 118), .mv (.t 117), none⟩ ::
⟨(some 119), .mv (.t 10), some (118, true)⟩ ::
⟨(some 120), .bin .eql (.t 119) (.k (.d (.int .u64 440))), some (118, true)⟩ ::
⟨(some 121), .pick (.t 118) (.t 120) (.k (.d (.bool false))), none⟩ ::
⟨(some 122), .mv (.t 121), none⟩ ::
⟨(some 123), .mv (.t 12), some (122, true)⟩ ::
⟨(some 124), .bin .eql (.t 123) (.k (.d (.int .u64 1099511627716))), some (122, true)⟩ ::
⟨(some 125), .pick (.t 122) (.t 124) (.k (.d (.bool false))), none⟩ ::
⟨(some 126), .mv (.t 125), none⟩ ::
⟨(some 127), .mv (.t 15), some (126, true)⟩ ::
⟨(some 128), .bin .eql (.t 127) (.k (.d (.int .i64 279))), some (126, true)⟩ ::
⟨(some 129), .pick (.t 126) (.t 128) (.k (.d (.bool false))), none⟩ ::
⟨(some 130), .mv (.t 129), none⟩ ::
⟨(some 131), .mv (.t 17), some (130, true)⟩ ::
⟨(some 132), .bin .eql (.t 131) (.k (.d (.int .i64 0))), some (130, true)⟩ ::
⟨(some 133), .pick (.t 130) (.t 132) (.k (.d (.bool false))), none⟩ ::
⟨(some 134), .mv (.t 133), none⟩ ::
⟨(some 135), .mv (.t 18), some (134, true)⟩ ::
⟨(some 136), .bin .eql (.t 135) (.k (.d (.int .u64 0))), some (134, true)⟩ ::
⟨(some 137), .pick (.t 134) (.t 136) (.k (.d (.bool false))), none⟩ ::
⟨(some 138), .mv (.t 137), none⟩ ::
⟨(some 139), .load (some 2) (.t 20), some (138, true)⟩ ::
⟨(some 140), .bld [(.d (.int .u8 0)), (.d (.int .u32 0))] [(1, 1, (.k (.d (.int .u32 2))))], some (138, true)⟩ ::
⟨(some 141), .eqv false [true, true] (.t 139) (.t 140), some (138, true)⟩ ::
⟨(some 142), .pick (.t 138) (.t 141) (.k (.d (.bool false))), none⟩ ::
⟨(some 143), .mv (.t 142), none⟩ ::
⟨(some 144), .mv (.t 23), some (143, true)⟩ ::
⟨(some 145), .bin .eql (.t 144) (.k (.d (.int .i64 7))), some (143, true)⟩ ::
⟨(some 146), .pick (.t 143) (.t 145) (.k (.d (.bool false))), none⟩ ::
⟨(some 0), .mv (.t 146), none⟩ :: []) (fullB 49) false)
   .ret))))))))))))))
def rv : List RV := [.tmp 0]
theorem c : cK Try.prog Try.f45.ntmps (Try.f45.body.getD .ret) = some s := by kernel_rfl
theorem b : Try.f45.body = some (Try.f45.body.getD .ret) := by kernel_rfl
theorem r : cRV Try.prog Try.f45.results.toList = some rv := by kernel_rfl
theorem ca : Callable Try.prog 45 = true := by kernel_rfl
theorem enter {args : List SV} {F : Hp} {k nk : Nat} {Q : SV → Hp → Prop} (hargs : SV.oks (fun n => decide (n < k)) args = true) (hF : F.ok (fun n => decide (n < k)) = true) (hN : args.length ≤ 147)
    (h : SW Try.prog 147 k s ⟨argE 0 args, F, k⟩ fun e st' => match e with | .normal => Fin k nk rv Q st' | .ret => Fin k nk rv Q st' | _ => False) : SB Try.prog 45 args F k nk Q :=
  SB.of_body Try.func45 b c r ca hargs hF hN h
end law22_head
namespace charge_Charge
abbrev f : Nat := 46
def s : SCo := (.seq
(.reg [⟨(some 6), .box 33 (.t 2), none⟩,
⟨(some 8), .mv (.k (.d .nils)), none⟩,
⟨(some 9), .mv (.k (.d (.int .i64 0))), none⟩] (fullB 3) false)
(.seq
(.reg [⟨(some 18), .mv (.t 0), none⟩,
⟨(some 19), .load (some 2) (.t 6), none⟩,
⟨(some 20), .call (.k (.fn (.func 23) [] [])) [(.t 18), (.t 19)], none⟩,
⟨(some 17), .mv (.t 20), none⟩,
⟨(some 21), .ext 0 (.t 17), none⟩,
⟨(some 22), .ext 1 (.t 17), none⟩,
⟨(some 10), .mv (.t 21), none⟩,
⟨(some 11), .mv (.t 22), none⟩] (fullB 8) false)
(.seq
(.seq
 (.reg [⟨(some 23), .mv (.t 11), none⟩,
⟨(some 24), .bin .neq (.t 23) (.k (.d (.int .i64 0))), none⟩] (fullB 2) false)
 (.cond (.t 24)
 (.seq
 (.reg [⟨(some 25), .mv (.t 11), none⟩,
⟨(some 8), .mv (.k (.d .nils)), none⟩,
⟨(some 9), .mv (.t 25), none⟩] (fullB 3) false)
 .ret)
 .skip))
(.seq
 (.reg [⟨(some 26), .mv (.t 1), none⟩,
⟨(some 27), .call (.k (.fn (.func 113) [] [])) [(.t 26)], none⟩,
⟨(some 12), .mv (.t 27), none⟩] (fullB 3) false)
 (.seq
 (.seq
 (.reg [⟨(some 29), .mv (.t 0), none⟩,
⟨(some 30), .mv (.t 12), none⟩,
⟨(some 31), .mv (.t 10), none⟩,
⟨(some 32), .call (.k (.fn (.func 114) [] [])) [(.t 29), (.t 30), (.t 31)], none⟩,
⟨(some 28), .mv (.t 32), none⟩,
⟨(some 33), .ext 0 (.t 28), none⟩,
⟨(some 34), .ext 1 (.t 28), none⟩,
⟨(some 13), .alloc 33 [(.d (.int .u8 0)), (.d (.int .u32 0))], none⟩,
⟨none, .store 2 (.t 13) (.t 33), none⟩,
⟨(some 14), .mv (.t 34), none⟩] (fullB 10) false)
 (.seq
 (.reg [⟨(some 35), .mv (.t 3), none⟩,
⟨(some 36), .mv (.t 14), none⟩,
⟨(some 37), .bin .gtr (.t 35) (.t 36), none⟩] (fullB 3) false)
 (.cond (.t 37)
  (.seq
  (.reg [⟨(some 38), .mv (.t 12), none⟩,
⟨(some 39), .call (.k (.fn (.func 115) [] [])) [(.t 38)], none⟩,
⟨(some 8), .mv (.t 39), none⟩,
⟨(some 9), .mv (.k (.d (.int .i64 279))), none⟩] (fullB 4) false)
  .ret)
  .skip)))
 (.seq
 (.seq
 (.reg [⟨(some 40), .mv (.t 10), none⟩,
⟨(some 41), .len (.t 40), none⟩,
⟨(some 42), .mv (.k (.d (.int .i64 0))), none⟩] (fullB 3) false)
 (.block 0
  (.loop
  (.seq
  (.reg [⟨(some 43), .bin .lss (.t 42) (.t 41), none⟩] (fullB 1) false)
  (.seq
  (.cond (.t 43)
   .skip
   (.exit 0))
  (.seq
   (.block 1
   (.seq
   (.reg [⟨(some 44), .idxS 2 (.t 40) (.t 42), none⟩,
⟨(some 45), .load (some 2) (.t 44), none⟩,
⟨(some 16), .alloc 33 [(.d (.int .u8 0)), (.d (.int .u32 0))], none⟩,
⟨none, .store 2 (.t 16) (.t 45), none⟩] (fullB 4) false)
   (.reg [⟨(some 46), .mv (.t 12), none⟩,
⟨(some 47), .load (some 2) (.t 16), none⟩,
⟨(some 48), .look [true, true] true (.d (.int .u64 0)) (.t 46) (.t 47) false, none⟩,
⟨(some 49), .mv (.t 3), none⟩,
⟨(some 50), .bin .add (.t 48) (.t 49), none⟩,
⟨(some 51), .mentr [true, true] true (.d (.int .u64 0)) (.t 46) (.t 47), none⟩,
⟨(some 52), .ext 1 (.t 51), none⟩,
⟨none, .mstor (.t 46) (.t 52) (.t 50), none⟩] [0,
0,
3,
0,
15,
11,
43,
127] true)))
   (.reg [⟨(some 53), .bin .add (.t 42) (.k (.d (.int .i64 1))), none⟩,
⟨(some 42), .mv (.t 53), none⟩] (fullB 2) false)))))))
 (.seq
 (.reg [⟨(some 54), .mv (.t 12), none⟩,
⟨(some 55), .call (.k (.fn (.func 115) [] [])) [(.t 54)], none⟩,
⟨(some 8), .mv (.t 55), none⟩,
⟨(some 9), .mv (.k (.d (.int .i64 0))), none⟩] (fullB 4) false)
 .ret)))))))
def rv : List RV := [.tmp 8, .tmp 9]
theorem c : cK Try.prog Try.f46.ntmps (Try.f46.body.getD .ret) = some s := by kernel_rfl
theorem b : Try.f46.body = some (Try.f46.body.getD .ret) := by kernel_rfl
theorem r : cRV Try.prog Try.f46.results.toList = some rv := by kernel_rfl
theorem ca : Callable Try.prog 46 = true := by kernel_rfl
theorem enter {args : List SV} {F : Hp} {k nk : Nat} {Q : SV → Hp → Prop} (hargs : SV.oks (fun n => decide (n < k)) args = true) (hF : F.ok (fun n => decide (n < k)) = true) (hN : args.length ≤ 56)
    (h : SW Try.prog 56 k s ⟨argE 0 args, F, k⟩ fun e st' => match e with | .normal => Fin k nk rv Q st' | .ret => Fin k nk rv Q st' | _ => False) : SB Try.prog 46 args F k nk Q :=
  SB.of_body Try.func46 b c r ca hargs hF hN h
end charge_Charge
namespace ref22_Same
abbrev f : Nat := 47
def s : SCo := (.seq
(.reg [⟨(some 4), .mv (.k (.d (.bool false))), none⟩] (fullB 1) false)
(.seq
(.seq
(.reg [⟨(some 6), .mv (.t 0), none⟩,
⟨(some 7), .len (.t 6), none⟩,
⟨(some 8), .mv (.t 1), none⟩,
⟨(some 9), .len (.t 8), none⟩,
⟨(some 10), .bin .neq (.t 7) (.t 9), none⟩] (fullB 5) false)
(.cond (.t 10)
 (.seq
 (.reg [⟨(some 4), .mv (.k (.d (.bool false))), none⟩] (fullB 1) false)
 .ret)
 .skip))
(.seq
(.seq
 (.reg [⟨(some 5), .mv (.k (.d (.int .i64 0))), none⟩] (fullB 1) false)
 (.block 0
 (.loop
 (.seq
 (.seq
  (.reg [⟨(some 11), .mv (.t 5), none⟩,
⟨(some 12), .mv (.t 0), none⟩,
⟨(some 13), .len (.t 12), none⟩,
⟨(some 14), .bin .lss (.t 11) (.t 13), none⟩] (fullB 4) false)
  (.cond (.t 14)
  .skip
  (.exit 0)))
 (.seq
  (.block 1
  (.seq
  (.reg [⟨(some 17), .mv (.t 0), none⟩,
⟨(some 18), .mv (.t 5), none⟩,
⟨(some 19), .idxS 3 (.t 17) (.t 18), none⟩,
⟨(some 20), .load (some 3) (.t 19), none⟩,
⟨(some 21), .mv (.t 1), none⟩,
⟨(some 22), .mv (.t 5), none⟩,
⟨(some 23), .idxS 3 (.t 21) (.t 22), none⟩,
⟨(some 24), .load (some 3) (.t 23), none⟩,
⟨(some 25), .eqv true [true, true, true] (.t 20) (.t 24), none⟩] [0,
0,
3,
7,
0,
0,
48,
112,
255] true)
  (.cond (.t 25)
  (.seq
   (.reg [⟨(some 4), .mv (.k (.d (.bool false))), none⟩] (fullB 1) false)
   .ret)
  .skip)))
  (.reg [⟨(some 15), .mv (.t 5), none⟩,
⟨(some 16), .bin .add (.t 15) (.k (.d (.int .i64 1))), none⟩,
⟨(some 5), .mv (.t 16), none⟩] (fullB 3) false))))))
(.seq
 (.reg [⟨(some 4), .mv (.k (.d (.bool true))), none⟩] (fullB 1) false)
 .ret))))
def rv : List RV := [.tmp 4]
theorem c : cK Try.prog Try.f47.ntmps (Try.f47.body.getD .ret) = some s := by kernel_rfl
theorem b : Try.f47.body = some (Try.f47.body.getD .ret) := by kernel_rfl
theorem r : cRV Try.prog Try.f47.results.toList = some rv := by kernel_rfl
theorem ca : Callable Try.prog 47 = true := by kernel_rfl
theorem enter {args : List SV} {F : Hp} {k nk : Nat} {Q : SV → Hp → Prop} (hargs : SV.oks (fun n => decide (n < k)) args = true) (hF : F.ok (fun n => decide (n < k)) = true) (hN : args.length ≤ 26)
    (h : SW Try.prog 26 k s ⟨argE 0 args, F, k⟩ fun e st' => match e with | .normal => Fin k nk rv Q st' | .ret => Fin k nk rv Q st' | _ => False) : SB Try.prog 47 args F k nk Q :=
  SB.of_body Try.func47 b c r ca hargs hF hN h
end ref22_Same
namespace charge_Room
abbrev f : Nat := 48
def s : SCo := (.seq
(.reg [⟨(some 5), .box 33 (.t 2), none⟩,
⟨(some 6), .mv (.k (.d (.int .u64 0))), none⟩,
⟨(some 7), .mv (.k (.d (.int .i64 0))), none⟩] (fullB 3) false)
(.seq
(.reg [⟨(some 13), .mv (.t 0), none⟩,
⟨(some 14), .load (some 2) (.t 5), none⟩,
⟨(some 15), .call (.k (.fn (.func 23) [] [])) [(.t 13), (.t 14)], none⟩,
⟨(some 12), .mv (.t 15), none⟩,
⟨(some 16), .ext 0 (.t 12), none⟩,
⟨(some 17), .ext 1 (.t 12), none⟩,
⟨(some 8), .mv (.t 16), none⟩,
⟨(some 9), .mv (.t 17), none⟩] (fullB 8) false)
(.seq
(.seq
 (.reg [⟨(some 18), .mv (.t 9), none⟩,
⟨(some 19), .bin .neq (.t 18) (.k (.d (.int .i64 0))), none⟩] (fullB 2) false)
 (.cond (.t 19)
 (.seq
 (.reg [⟨(some 20), .mv (.t 9), none⟩,
⟨(some 6), .mv (.k (.d (.int .u64 0))), none⟩,
⟨(some 7), .mv (.t 20), none⟩] (fullB 3) false)
 .ret)
 .skip))
(.seq
 (.reg [⟨(some 22), .mv (.t 0), none⟩,
⟨(some 23), .mv (.t 1), none⟩,
⟨(some 24), .call (.k (.fn (.func 113) [] [])) [(.t 23)], none⟩,
⟨(some 25), .mv (.t 8), none⟩,
⟨(some 26), .call (.k (.fn (.func 114) [] [])) [(.t 22), (.t 24), (.t 25)], none⟩,
⟨(some 21), .mv (.t 26), none⟩,
⟨(some 27), .ext 0 (.t 21), none⟩,
⟨(some 28), .ext 1 (.t 21), none⟩,
⟨(some 10), .alloc 33 [(.d (.int .u8 0)), (.d (.int .u32 0))], none⟩,
⟨none, .store 2 (.t 10) (.t 27), none⟩,
⟨(some 11), .mv (.t 28), none⟩] (fullB 11) false)
 (.seq
 (.reg [⟨(some 29), .mv (.t 11), none⟩,
⟨(some 6), .mv (.t 29), none⟩,
⟨(some 7), .mv (.k (.d (.int .i64 0))), none⟩] (fullB 3) false)
 .ret)))))
def rv : List RV := [.tmp 6, .tmp 7]
theorem c : cK Try.prog Try.f48.ntmps (Try.f48.body.getD .ret) = some s := by kernel_rfl
theorem b : Try.f48.body = some (Try.f48.body.getD .ret) := by kernel_rfl
theorem r : cRV Try.prog Try.f48.results.toList = some rv := by kernel_rfl
theorem ca : Callable Try.prog 48 = true := by kernel_rfl
theorem enter {args : List SV} {F : Hp} {k nk : Nat} {Q : SV → Hp → Prop} (hargs : SV.oks (fun n => decide (n < k)) args = true) (hF : F.ok (fun n => decide (n < k)) = true) (hN : args.length ≤ 30)
    (h : SW Try.prog 30 k s ⟨argE 0 args, F, k⟩ fun e st' => match e with | .normal => Fin k nk rv Q st' | .ret => Fin k nk rv Q st' | _ => False) : SB Try.prog 48 args F k nk Q :=
  SB.of_body Try.func48 b c r ca hargs hF hN h
end charge_Room
namespace charge_Tight
abbrev f : Nat := 49
def s : SCo := (.seq
(.reg [⟨(some 5), .box 33 (.t 2), none⟩,
⟨(some 6), .alloc 33 [(.d (.int .u8 0)), (.d (.int .u32 0))], none⟩,
⟨(some 7), .mv (.k (.d (.int .i64 0))), none⟩] (fullB 3) false)
(.seq
(.reg [⟨(some 13), .mv (.t 0), none⟩,
⟨(some 14), .load (some 2) (.t 5), none⟩,
⟨(some 15), .call (.k (.fn (.func 23) [] [])) [(.t 13), (.t 14)], none⟩,
⟨(some 12), .mv (.t 15), none⟩,
⟨(some 16), .ext 0 (.t 12), none⟩,
⟨(some 17), .ext 1 (.t 12), none⟩,
⟨(some 8), .mv (.t 16), none⟩,
⟨(some 9), .mv (.t 17), none⟩] (fullB 8) false)
(.seq
(.seq
 (.reg [⟨(some 18), .mv (.t 9), none⟩,
⟨(some 19), .bin .neq (.t 18) (.k (.d (.int .i64 0))), none⟩] (fullB 2) false)
 (.cond (.t 19)
 (.seq
 (.reg [⟨(some 20), .bld [(.d (.int .u8 0)), (.d (.int .u32 0))] [], none⟩,
⟨(some 21), .mv (.t 9), none⟩,
⟨none, .store 2 (.t 6) (.t 20), none⟩,
⟨(some 7), .mv (.t 21), none⟩] (fullB 4) false)
 .ret)
 .skip))
(.seq
 (.reg [⟨(some 23), .mv (.t 0), none⟩,
⟨(some 24), .mv (.t 1), none⟩,
⟨(some 25), .call (.k (.fn (.func 113) [] [])) [(.t 24)], none⟩,
⟨(some 26), .mv (.t 8), none⟩,
⟨(some 27), .call (.k (.fn (.func 114) [] [])) [(.t 23), (.t 25), (.t 26)], none⟩,
⟨(some 22), .mv (.t 27), none⟩,
⟨(some 28), .ext 0 (.t 22), none⟩,
⟨(some 29), .ext 1 (.t 22), none⟩,
⟨(some 10), .alloc 33 [(.d (.int .u8 0)), (.d (.int .u32 0))], none⟩,
⟨none, .store 2 (.t 10) (.t 28), none⟩,
⟨(some 11), .mv (.t 29), none⟩] (fullB 11) false)
 (.seq
 (.reg [⟨(some 30), .load (some 2) (.t 10), none⟩,
⟨none, .store 2 (.t 6) (.t 30), none⟩,
⟨(some 7), .mv (.k (.d (.int .i64 0))), none⟩] (fullB 3) false)
 .ret)))))
def rv : List RV := [.cell 6 (some 2), .tmp 7]
theorem c : cK Try.prog Try.f49.ntmps (Try.f49.body.getD .ret) = some s := by kernel_rfl
theorem b : Try.f49.body = some (Try.f49.body.getD .ret) := by kernel_rfl
theorem r : cRV Try.prog Try.f49.results.toList = some rv := by kernel_rfl
theorem ca : Callable Try.prog 49 = true := by kernel_rfl
theorem enter {args : List SV} {F : Hp} {k nk : Nat} {Q : SV → Hp → Prop} (hargs : SV.oks (fun n => decide (n < k)) args = true) (hF : F.ok (fun n => decide (n < k)) = true) (hN : args.length ≤ 31)
    (h : SW Try.prog 31 k s ⟨argE 0 args, F, k⟩ fun e st' => match e with | .normal => Fin k nk rv Q st' | .ret => Fin k nk rv Q st' | _ => False) : SB Try.prog 49 args F k nk Q :=
  SB.of_body Try.func49 b c r ca hargs hF hN h
end charge_Tight
namespace ref22_Tight
abbrev f : Nat := 50
def s : SCo := (.seq
(.reg [⟨(some 5), .box 33 (.t 2), none⟩,
⟨(some 6), .alloc 33 [(.d (.int .u8 0)), (.d (.int .u32 0))], none⟩,
⟨(some 7), .mv (.k (.d (.int .u64 0))), none⟩,
⟨(some 8), .mv (.k (.d (.int .i64 0))), none⟩] (fullB 4) false)
(.seq
(.reg [⟨(some 14), .mv (.t 0), none⟩,
⟨(some 15), .load (some 2) (.t 5), none⟩,
⟨(some 16), .call (.k (.fn (.func 36) [] [])) [(.t 14), (.t 15)], none⟩,
⟨(some 13), .mv (.t 16), none⟩,
⟨(some 17), .ext 0 (.t 13), none⟩,
⟨(some 18), .ext 1 (.t 13), none⟩,
⟨(some 9), .mv (.t 17), none⟩,
⟨(some 10), .mv (.t 18), none⟩] (fullB 8) false)
(.seq
(.seq
 (.reg [⟨(some 19), .mv (.t 10), none⟩,
⟨(some 20), .bin .neq (.t 19) (.k (.d (.int .i64 0))), none⟩] (fullB 2) false)
 (.cond (.t 20)
 (.seq
 (.reg [⟨(some 21), .bld [(.d (.int .u8 0)), (.d (.int .u32 0))] [], none⟩,
⟨none, .store 2 (.t 6) (.t 21), none⟩,
⟨(some 7), .mv (.k (.d (.int .u64 0))), none⟩,
⟨(some 8), .mv (.k (.d (.int .i64 7))), none⟩] (fullB 4) false)
 .ret)
 .skip))
(.seq
 (.reg [⟨(some 11), .mv (.k (.d (.int .i64 0))), none⟩] (fullB 1) false)
 (.seq
 (.seq
 (.reg [⟨(some 12), .mv (.k (.d (.int .i64 1))), none⟩] (fullB 1) false)
 (.block 0
 (.loop
  (.seq
  (.seq
  (.reg [⟨(some 22), .mv (.t 12), none⟩,
⟨(some 23), .mv (.t 9), none⟩,
⟨(some 24), .len (.t 23), none⟩,
⟨(some 25), .bin .lss (.t 22) (.t 24), none⟩] (fullB 4) false)
  (.cond (.t 25)
  .skip
  (.exit 0)))
  (.seq
  (.block 1
  (.seq
   (.reg [⟨(some 28), .mv (.t 0), none⟩,
⟨(some 29), .mv (.t 1), none⟩,
⟨(some 30), .mv (.t 9), none⟩,
⟨(some 31), .mv (.t 12), none⟩,
⟨(some 32), .idxS 2 (.t 30) (.t 31), none⟩,
⟨(some 33), .load (some 2) (.t 32), none⟩,
⟨(some 34), .call (.k (.fn (.func 116) [] [])) [(.t 28), (.t 29), (.t 33)], none⟩,
⟨(some 35), .mv (.t 0), none⟩,
⟨(some 36), .mv (.t 1), none⟩,
⟨(some 37), .mv (.t 9), none⟩,
⟨(some 38), .mv (.t 11), none⟩,
⟨(some 39), .idxS 2 (.t 37) (.t 38), none⟩,
⟨(some 40), .load (some 2) (.t 39), none⟩,
⟨(some 41), .call (.k (.fn (.func 116) [] [])) [(.t 35), (.t 36), (.t 40)], none⟩,
⟨(some 42), .bin .lss (.t 34) (.t 41), none⟩] [0,
0,
0,
0,
12,
28,
63,
0,
0,
0,
0,
1536,
3584,
8191,
16383] true)
   (.cond (.t 42)
   (.reg [⟨(some 43), .mv (.t 12), none⟩,
⟨(some 11), .mv (.t 43), none⟩] (fullB 2) false)
   .skip)))
  (.reg [⟨(some 26), .mv (.t 12), none⟩,
⟨(some 27), .bin .add (.t 26) (.k (.d (.int .i64 1))), none⟩,
⟨(some 12), .mv (.t 27), none⟩] (fullB 3) false))))))
 (.seq
 (.reg [⟨(some 44), .mv (.t 9), none⟩,
⟨(some 45), .mv (.t 11), none⟩,
⟨(some 46), .idxS 2 (.t 44) (.t 45), none⟩,
⟨(some 47), .load (some 2) (.t 46), none⟩,
⟨(some 48), .mv (.t 0), none⟩,
⟨(some 49), .mv (.t 1), none⟩,
⟨(some 50), .mv (.t 9), none⟩,
⟨(some 51), .mv (.t 11), none⟩,
⟨(some 52), .idxS 2 (.t 50) (.t 51), none⟩,
⟨(some 53), .load (some 2) (.t 52), none⟩,
⟨(some 54), .call (.k (.fn (.func 116) [] [])) [(.t 48), (.t 49), (.t 53)], none⟩,
⟨none, .store 2 (.t 6) (.t 47), none⟩,
⟨(some 7), .mv (.t 54), none⟩,
⟨(some 8), .mv (.k (.d (.int .i64 0))), none⟩] [0,
0,
3,
7,
0,
0,
0,
0,
192,
448,
1008,
2047,
4095,
8191] true)
 .ret))))))
def rv : List RV := [.cell 6 (some 2), .tmp 7, .tmp 8]
theorem c : cK Try.prog Try.f50.ntmps (Try.f50.body.getD .ret) = some s := by kernel_rfl
theorem b : Try.f50.body = some (Try.f50.body.getD .ret) := by kernel_rfl
theorem r : cRV Try.prog Try.f50.results.toList = some rv := by kernel_rfl
theorem ca : Callable Try.prog 50 = true := by kernel_rfl
theorem enter {args : List SV} {F : Hp} {k nk : Nat} {Q : SV → Hp → Prop} (hargs : SV.oks (fun n => decide (n < k)) args = true) (hF : F.ok (fun n => decide (n < k)) = true) (hN : args.length ≤ 55)
    (h : SW Try.prog 55 k s ⟨argE 0 args, F, k⟩ fun e st' => match e with | .normal => Fin k nk rv Q st' | .ret => Fin k nk rv Q st' | _ => False) : SB Try.prog 50 args F k nk Q :=
  SB.of_body Try.func50 b c r ca hargs hF hN h
end ref22_Tight
namespace ref22_Charge
abbrev f : Nat := 51
def s : SCo := (.seq
(.reg [⟨(some 6), .box 33 (.t 2), none⟩,
⟨(some 8), .mv (.k (.d .nils)), none⟩,
⟨(some 9), .mv (.k (.d (.int .i64 0))), none⟩] (fullB 3) false)
(.seq
(.reg [⟨(some 21), .mv (.t 0), none⟩,
⟨(some 22), .mv (.t 1), none⟩,
⟨(some 23), .load (some 2) (.t 6), none⟩,
⟨(some 24), .call (.k (.fn (.func 50) [] [])) [(.t 21), (.t 22), (.t 23)], none⟩,
⟨(some 20), .mv (.t 24), none⟩,
⟨(some 25), .ext 0 (.t 20), none⟩,
⟨(some 26), .ext 1 (.t 20), none⟩,
⟨(some 27), .ext 2 (.t 20), none⟩,
⟨(some 10), .alloc 33 [(.d (.int .u8 0)), (.d (.int .u32 0))], none⟩,
⟨none, .store 2 (.t 10) (.t 25), none⟩,
⟨(some 11), .mv (.t 26), none⟩,
⟨(some 12), .mv (.t 27), none⟩] (fullB 12) false)
(.seq
(.seq
 (.reg [⟨(some 28), .mv (.t 12), none⟩,
⟨(some 29), .bin .neq (.t 28) (.k (.d (.int .i64 0))), none⟩] (fullB 2) false)
 (.cond (.t 29)
 (.seq
 (.reg [⟨(some 30), .mv (.t 12), none⟩,
⟨(some 8), .mv (.k (.d .nils)), none⟩,
⟨(some 9), .mv (.t 30), none⟩] (fullB 3) false)
 .ret)
 .skip))
(.seq
 (.seq
 (.reg [⟨(some 31), .mv (.t 3), none⟩,
⟨(some 32), .mv (.t 11), none⟩,
⟨(some 33), .bin .gtr (.t 31) (.t 32), none⟩] (fullB 3) false)
 (.cond (.t 33)
 (.seq
 (.reg [⟨(some 34), .mv (.t 1), none⟩,
⟨(some 35), .call (.k (.fn (.func 55) [] [])) [(.t 34)], none⟩,
⟨(some 8), .mv (.t 35), none⟩,
⟨(some 9), .mv (.k (.d (.int .i64 279))), none⟩] (fullB 4) false)
 .ret)
 .skip))
 (.seq
 (.reg [⟨(some 37), .mv (.t 0), none⟩,
⟨(some 38), .load (some 2) (.t 6), none⟩,
⟨(some 39), .call (.k (.fn (.func 36) [] [])) [(.t 37), (.t 38)], none⟩,
⟨(some 36), .mv (.t 39), none⟩,
⟨(some 40), .ext 0 (.t 36), none⟩,
⟨(some 41), .ext 1 (.t 36), none⟩,
⟨(some 13), .mv (.t 40), none⟩,
⟨(some 14), .mv (.t 41), none⟩] (fullB 8) false)
 (.seq
 (.reg [⟨(some 42), .bsl 80 3 0 [] [], none⟩,
⟨(some 43), .mv (.t 1), none⟩,
⟨(some 44), .call (.k (.fn (.func 55) [] [])) [(.t 43)], none⟩,
⟨(some 45), .app 80 3 16 (.t 42) (.t 44), none⟩,
⟨(some 15), .mv (.t 45), none⟩] (fullB 5) false)
 (.seq
 (.seq
  (.reg [⟨(some 16), .mv (.k (.d (.int .i64 0))), none⟩] (fullB 1) false)
  (.block 0
  (.loop
  (.seq
  (.seq
   (.reg [⟨(some 46), .mv (.t 16), none⟩,
⟨(some 47), .mv (.t 13), none⟩,
⟨(some 48), .len (.t 47), none⟩,
⟨(some 49), .bin .lss (.t 46) (.t 48), none⟩] (fullB 4) false)
   (.cond (.t 49)
   .skip
   (.exit 0)))
  (.seq
   (.block 1
   (.seq
   (.reg [⟨(some 52), .mv (.t 15), none⟩,
⟨(some 53), .mv (.t 13), none⟩,
⟨(some 54), .mv (.t 16), none⟩,
⟨(some 55), .idxS 2 (.t 53) (.t 54), none⟩,
⟨(some 56), .load (some 2) (.t 55), none⟩,
⟨(some 57), .call (.k (.fn (.func 53) [] [])) [(.t 52), (.t 56)], none⟩,
⟨(some 17), .mv (.t 57), none⟩] (fullB 7) false)
   (.seq
   (.reg [⟨(some 18), .mv (.k (.d .nils)), none⟩] (fullB 1) false)
   (.seq
    (.seq
    (.reg [⟨(some 19), .mv (.k (.d (.int .i64 0))), none⟩] (fullB 1) false)
    (.block 2
    (.loop
    (.seq
     (.seq
     (.reg [⟨(some 58), .mv (.t 19), none⟩,
⟨(some 59), .mv (.t 15), none⟩,
⟨(some 60), .len (.t 59), none⟩,
⟨(some 61), .bin .lss (.t 58) (.t 60), none⟩] (fullB 4) false)
     (.cond (.t 61)
     .skip
     (.exit 2)))
     (.seq
     (.block 3
     (.seq
     (.reg [⟨(some 64), .mv (.t 15), none⟩,
⟨(some 65), .mv (.t 19), none⟩,
⟨(some 66), .idxS 3 (.t 64) (.t 65), none⟩,
⟨(some 67), .fld 0 (.t 66), none⟩,
⟨(some 68), .load (some 2) (.t 67), none⟩,
⟨(some 69), .mv (.t 13), none⟩,
⟨(some 70), .mv (.t 16), none⟩,
⟨(some 71), .idxS 2 (.t 69) (.t 70), none⟩,
⟨(some 72), .load (some 2) (.t 71), none⟩,
⟨(some 73), .eqv true [true, true] (.t 68) (.t 72), none⟩] [0,
0,
3,
7,
15,
0,
0,
96,
224,
511] true)
     (.cond (.t 73)
      (.reg [⟨(some 74), .mv (.t 18), none⟩,
⟨(some 75), .mv (.t 15), none⟩,
⟨(some 76), .mv (.t 19), none⟩,
⟨(some 77), .idxS 3 (.t 75) (.t 76), none⟩,
⟨(some 78), .load (some 3) (.t 77), none⟩,
⟨(some 79), .bsl 80 3 1 [(.d (.int .u8 0)), (.d (.int .u32 0)), (.d (.int .u64 0))] [(0, 3, (.t 78))], none⟩,
⟨(some 80), .app 80 3 16 (.t 74) (.t 79), none⟩,
⟨(some 18), .mv (.t 80), none⟩] (fullB 8) false)
      .skip)))
     (.reg [⟨(some 62), .mv (.t 19), none⟩,
⟨(some 63), .bin .add (.t 62) (.k (.d (.int .i64 1))), none⟩,
⟨(some 19), .mv (.t 63), none⟩] (fullB 3) false))))))
    (.reg [⟨(some 81), .mv (.t 18), none⟩,
⟨(some 82), .mv (.t 13), none⟩,
⟨(some 83), .mv (.t 16), none⟩,
⟨(some 84), .idxS 2 (.t 82) (.t 83), none⟩,
⟨(some 85), .load (some 2) (.t 84), none⟩,
⟨(some 86), .mv (.t 17), none⟩,
⟨(some 87), .mv (.t 3), none⟩,
⟨(some 88), .bin .add (.t 86) (.t 87), none⟩,
⟨(some 89), .bld [(.d (.int .u8 0)), (.d (.int .u32 0)), (.d (.int .u64 0))] [(0, 2, (.t 85)), (2, 1, (.t 88))], none⟩,
⟨(some 90), .bsl 80 3 1 [(.d (.int .u8 0)), (.d (.int .u32 0)), (.d (.int .u64 0))] [(0, 3, (.t 89))], none⟩,
⟨(some 91), .app 80 3 16 (.t 81) (.t 90), none⟩,
⟨(some 15), .mv (.t 91), none⟩] (fullB 12) false)))))
   (.reg [⟨(some 50), .mv (.t 16), none⟩,
⟨(some 51), .bin .add (.t 50) (.k (.d (.int .i64 1))), none⟩,
⟨(some 16), .mv (.t 51), none⟩] (fullB 3) false))))))
 (.seq
  (.reg [⟨(some 92), .mv (.t 15), none⟩,
⟨(some 93), .call (.k (.fn (.func 55) [] [])) [(.t 92)], none⟩,
⟨(some 8), .mv (.t 93), none⟩,
⟨(some 9), .mv (.k (.d (.int .i64 0))), none⟩] (fullB 4) false)
  .ret))))))))
def rv : List RV := [.tmp 8, .tmp 9]
theorem c : cK Try.prog Try.f51.ntmps (Try.f51.body.getD .ret) = some s := by kernel_rfl
theorem b : Try.f51.body = some (Try.f51.body.getD .ret) := by kernel_rfl
theorem r : cRV Try.prog Try.f51.results.toList = some rv := by kernel_rfl
theorem ca : Callable Try.prog 51 = true := by kernel_rfl
theorem enter {args : List SV} {F : Hp} {k nk : Nat} {Q : SV → Hp → Prop} (hargs : SV.oks (fun n => decide (n < k)) args = true) (hF : F.ok (fun n => decide (n < k)) = true) (hN : args.length ≤ 94)
    (h : SW Try.prog 94 k s ⟨argE 0 args, F, k⟩ fun e st' => match e with | .normal => Fin k nk rv Q st' | .ret => Fin k nk rv Q st' | _ => False) : SB Try.prog 51 args F k nk Q :=
  SB.of_body Try.func51 b c r ca hargs hF hN h
end ref22_Charge
namespace charge_Spent
abbrev f : Nat := 52
def s : SCo := (.seq
(.reg [⟨(some 3), .box 33 (.t 1), none⟩,
⟨(some 4), .mv (.k (.d (.int .u64 0))), none⟩] (fullB 2) false)
(.seq
(.reg [⟨(some 5), .mv (.t 0), none⟩,
⟨(some 6), .call (.k (.fn (.func 113) [] [])) [(.t 5)], none⟩,
⟨(some 7), .load (some 2) (.t 3), none⟩,
⟨(some 8), .look [true, true] true (.d (.int .u64 0)) (.t 6) (.t 7) false, none⟩,
⟨(some 4), .mv (.t 8), none⟩] [0,
1,
0,
7,
15] true)
.ret))
def rv : List RV := [.tmp 4]
theorem c : cK Try.prog Try.f52.ntmps (Try.f52.body.getD .ret) = some s := by kernel_rfl
theorem b : Try.f52.body = some (Try.f52.body.getD .ret) := by kernel_rfl
theorem r : cRV Try.prog Try.f52.results.toList = some rv := by kernel_rfl
theorem ca : Callable Try.prog 52 = true := by kernel_rfl
theorem enter {args : List SV} {F : Hp} {k nk : Nat} {Q : SV → Hp → Prop} (hargs : SV.oks (fun n => decide (n < k)) args = true) (hF : F.ok (fun n => decide (n < k)) = true) (hN : args.length ≤ 9)
    (h : SW Try.prog 9 k s ⟨argE 0 args, F, k⟩ fun e st' => match e with | .normal => Fin k nk rv Q st' | .ret => Fin k nk rv Q st' | _ => False) : SB Try.prog 52 args F k nk Q :=
  SB.of_body Try.func52 b c r ca hargs hF hN h
end charge_Spent
namespace ref22_Spent
abbrev f : Nat := 53
def s : SCo := (.seq
(.reg [⟨(some 3), .box 33 (.t 1), none⟩,
⟨(some 4), .mv (.k (.d (.int .u64 0))), none⟩] (fullB 2) false)
(.seq
(.seq
(.reg [⟨(some 5), .mv (.k (.d (.int .i64 0))), none⟩] (fullB 1) false)
(.block 0
 (.loop
 (.seq
 (.seq
 (.reg [⟨(some 6), .mv (.t 5), none⟩,
⟨(some 7), .mv (.t 0), none⟩,
⟨(some 8), .len (.t 7), none⟩,
⟨(some 9), .bin .lss (.t 6) (.t 8), none⟩] (fullB 4) false)
 (.cond (.t 9)
  .skip
  (.exit 0)))
 (.seq
 (.block 1
  (.seq
  (.reg [⟨(some 12), .mv (.t 0), none⟩,
⟨(some 13), .mv (.t 5), none⟩,
⟨(some 14), .idxS 3 (.t 12) (.t 13), none⟩,
⟨(some 15), .fld 0 (.t 14), none⟩,
⟨(some 16), .load (some 2) (.t 15), none⟩,
⟨(some 17), .load (some 2) (.t 3), none⟩,
⟨(some 18), .eqv false [true, true] (.t 16) (.t 17), none⟩] [0,
0,
3,
7,
15,
0,
63] true)
  (.cond (.t 18)
  (.seq
  (.reg [⟨(some 19), .mv (.t 0), none⟩,
⟨(some 20), .mv (.t 5), none⟩,
⟨(some 21), .idxS 3 (.t 19) (.t 20), none⟩,
⟨(some 22), .fld 2 (.t 21), none⟩,
⟨(some 23), .load none (.t 22), none⟩,
⟨(some 4), .mv (.t 23), none⟩] (fullB 6) false)
  .ret)
  .skip)))
 (.reg [⟨(some 10), .mv (.t 5), none⟩,
⟨(some 11), .bin .add (.t 10) (.k (.d (.int .i64 1))), none⟩,
⟨(some 5), .mv (.t 11), none⟩] (fullB 3) false))))))
(.seq
(.reg [⟨(some 4), .mv (.k (.d (.int .u64 0))), none⟩] (fullB 1) false)
.ret)))
def rv : List RV := [.tmp 4]
theorem c : cK Try.prog Try.f53.ntmps (Try.f53.body.getD .ret) = some s := by kernel_rfl
theorem b : Try.f53.body = some (Try.f53.body.getD .ret) := by kernel_rfl
theorem r : cRV Try.prog Try.f53.results.toList = some rv := by kernel_rfl
theorem ca : Callable Try.prog 53 = true := by kernel_rfl
theorem enter {args : List SV} {F : Hp} {k nk : Nat} {Q : SV → Hp → Prop} (hargs : SV.oks (fun n => decide (n < k)) args = true) (hF : F.ok (fun n => decide (n < k)) = true) (hN : args.length ≤ 24)
    (h : SW Try.prog 24 k s ⟨argE 0 args, F, k⟩ fun e st' => match e with | .normal => Fin k nk rv Q st' | .ret => Fin k nk rv Q st' | _ => False) : SB Try.prog 53 args F k nk Q :=
  SB.of_body Try.func53 b c r ca hargs hF hN h
end ref22_Spent
namespace ref22_Plain
abbrev f : Nat := 55
def s : SCo := (.seq
(.reg [⟨(some 2), .mv (.k (.d .nils)), none⟩] (fullB 1) false)
(.seq
(.reg [⟨(some 3), .mv (.k (.d .nils)), none⟩] (fullB 1) false)
(.seq
(.seq
 (.reg [⟨(some 4), .mv (.k (.d (.int .i64 0))), none⟩] (fullB 1) false)
 (.block 0
 (.loop
 (.seq
 (.seq
  (.reg [⟨(some 8), .mv (.t 4), none⟩,
⟨(some 9), .mv (.t 0), none⟩,
⟨(some 10), .len (.t 9), none⟩,
⟨(some 11), .bin .lss (.t 8) (.t 10), none⟩] (fullB 4) false)
  (.cond (.t 11)
  .skip
  (.exit 0)))
 (.seq
  (.block 1
  (.reg [⟨(some 14), .mv (.t 3), none⟩,
⟨(some 15), .mv (.t 0), none⟩,
⟨(some 16), .mv (.t 4), none⟩,
⟨(some 17), .idxS 3 (.t 15) (.t 16), none⟩,
⟨(some 18), .fld 0 (.t 17), none⟩,
⟨(some 19), .load (some 2) (.t 18), none⟩,
⟨(some 20), .bsl 33 2 1 [(.d (.int .u8 0)), (.d (.int .u32 0))] [(0, 2, (.t 19))], none⟩,
⟨(some 21), .app 33 2 8 (.t 14) (.t 20), none⟩,
⟨(some 3), .mv (.t 21), none⟩] (fullB 9) false))
  (.reg [⟨(some 12), .mv (.t 4), none⟩,
⟨(some 13), .bin .add (.t 12) (.k (.d (.int .i64 1))), none⟩,
⟨(some 4), .mv (.t 13), none⟩] (fullB 3) false))))))
(.seq
 (.reg [⟨(some 22), .mv (.t 3), none⟩,
⟨(some 23), .call (.k (.fn (.func 99) [] [])) [(.t 22)], none⟩,
⟨(some 3), .mv (.t 23), none⟩] (fullB 3) false)
 (.seq
 (.reg [⟨(some 5), .mv (.k (.d .nils)), none⟩] (fullB 1) false)
 (.seq
 (.seq
 (.reg [⟨(some 6), .mv (.k (.d (.int .i64 0))), none⟩] (fullB 1) false)
 (.block 2
  (.loop
  (.seq
  (.seq
  (.reg [⟨(some 24), .mv (.t 6), none⟩,
⟨(some 25), .mv (.t 3), none⟩,
⟨(some 26), .len (.t 25), none⟩,
⟨(some 27), .bin .lss (.t 24) (.t 26), none⟩] (fullB 4) false)
  (.cond (.t 27)
   .skip
   (.exit 2)))
  (.seq
  (.block 3
   (.seq
   (.reg [⟨(some 30), .mv (.t 0), none⟩,
⟨(some 31), .mv (.t 3), none⟩,
⟨(some 32), .mv (.t 6), none⟩,
⟨(some 33), .idxS 2 (.t 31) (.t 32), none⟩,
⟨(some 34), .load (some 2) (.t 33), none⟩,
⟨(some 35), .call (.k (.fn (.func 53) [] [])) [(.t 30), (.t 34)], none⟩,
⟨(some 7), .mv (.t 35), none⟩] (fullB 7) false)
   (.seq
   (.reg [⟨(some 36), .mv (.t 7), none⟩,
⟨(some 37), .bin .gtr (.t 36) (.k (.d (.int .u64 0))), none⟩] (fullB 2) false)
   (.cond (.t 37)
   (.reg [⟨(some 38), .mv (.t 5), none⟩,
⟨(some 39), .mv (.t 3), none⟩,
⟨(some 40), .mv (.t 6), none⟩,
⟨(some 41), .idxS 2 (.t 39) (.t 40), none⟩,
⟨(some 42), .load (some 2) (.t 41), none⟩,
⟨(some 43), .mv (.t 7), none⟩,
⟨(some 44), .bld [(.d (.int .u8 0)), (.d (.int .u32 0)), (.d (.int .u64 0))] [(0, 2, (.t 42)), (2, 1, (.t 43))], none⟩,
⟨(some 45), .bsl 80 3 1 [(.d (.int .u8 0)), (.d (.int .u32 0)), (.d (.int .u64 0))] [(0, 3, (.t 44))], none⟩,
⟨(some 46), .app 80 3 16 (.t 38) (.t 45), none⟩,
⟨(some 5), .mv (.t 46), none⟩] (fullB 10) false)
   .skip))))
  (.reg [⟨(some 28), .mv (.t 6), none⟩,
⟨(some 29), .bin .add (.t 28) (.k (.d (.int .i64 1))), none⟩,
⟨(some 6), .mv (.t 29), none⟩] (fullB 3) false))))))
 (.seq
 (.reg [⟨(some 47), .mv (.t 5), none⟩,
⟨(some 2), .mv (.t 47), none⟩] (fullB 2) false)
 .ret)))))))
def rv : List RV := [.tmp 2]
theorem c : cK Try.prog Try.f55.ntmps (Try.f55.body.getD .ret) = some s := by kernel_rfl
theorem b : Try.f55.body = some (Try.f55.body.getD .ret) := by kernel_rfl
theorem r : cRV Try.prog Try.f55.results.toList = some rv := by kernel_rfl
theorem ca : Callable Try.prog 55 = true := by kernel_rfl
theorem enter {args : List SV} {F : Hp} {k nk : Nat} {Q : SV → Hp → Prop} (hargs : SV.oks (fun n => decide (n < k)) args = true) (hF : F.ok (fun n => decide (n < k)) = true) (hN : args.length ≤ 48)
    (h : SW Try.prog 48 k s ⟨argE 0 args, F, k⟩ fun e st' => match e with | .normal => Fin k nk rv Q st' | .ret => Fin k nk rv Q st' | _ => False) : SB Try.prog 55 args F k nk Q :=
  SB.of_body Try.func55 b c r ca hargs hF hN h
end ref22_Plain
namespace law22_row
abbrev f : Nat := 112
def s : SCo := (.seq
(.reg [⟨(some 0), .mv (.k (.d .nils)), none⟩] (fullB 1) false)
(.seq
(.reg [⟨(some 2), .bld [(.d (.int .u8 0)), (.d (.int .u32 0))] [(1, 1, (.k (.d (.int .u32 1))))], none⟩,
⟨(some 1), .alloc 33 [(.d (.int .u8 0)), (.d (.int .u32 0))], none⟩,
⟨none, .store 2 (.t 1) (.t 2), none⟩] (fullB 3) false)
(.seq
(.reg [⟨(some 3), .load (some 2) (.t 1), none⟩,
⟨(some 4), .load (some 2) (.t 1), none⟩,
⟨(some 5), .bld [(.d (.int .u8 0)), (.d (.int .u32 0)), (.d (.int .u32 0)), (.d (.int .u32 0)), (.d (.int .u32 0)), (.d (.int .u32 0)), (.d (.int .u32 0)), (.d (.int .u32 0)), (.d (.int .u32 0)), (.d (.int .u32 0)), (.d (.int .u64 0)), (.d (.int .u32 0)), (.d (.int .u8 0)), (.d (.int .u32 0)), (.d (.int .u8 0)), (.d (.int .u8 0)), (.d (.int .u32 0)), (.d (.int .u32 0)), (.d (.int .u8 0)), (.d (.int .u8 0)), (.d (.int .u64 0)), (.d (.int .u8 0)), (.d (.int .u32 0)), (.d (.int .u8 0)), (.d (.int .u32 0)), (.d (.int .u32 0)), (.d (.int .u32 0)), (.d (.int .u32 0)), (.d .nils)] [(0, 2, (.t 3)), (10, 1, (.k (.d (.int .u64 1)))), (11, 1, (.k (.d (.int .u32 1)))), (12, 2, (.t 4))], none⟩,
⟨(some 6), .bld [(.d (.int .u8 0)), (.d (.int .u32 0))] [(1, 1, (.k (.d (.int .u32 2))))], none⟩,
⟨(some 7), .bld [(.d (.int .u32 0)), (.d (.int .u32 0)), (.d (.int .u32 0)), (.d (.int .u32 0)), (.d (.int .u32 0)), (.d (.int .u32 0)), (.d (.int .u32 0)), (.d (.int .u32 0))] [(0, 1, (.k (.d (.int .u32 1))))], none⟩,
⟨(some 8), .load (some 2) (.t 1), none⟩,
⟨(some 9), .load (some 2) (.t 1), none⟩,
⟨(some 10), .bld [(.d (.int .u8 0)), (.d (.int .u32 0)), (.d (.int .u32 0)), (.d (.int .u32 0)), (.d (.int .u32 0)), (.d (.int .u32 0)), (.d (.int .u32 0)), (.d (.int .u32 0)), (.d (.int .u32 0)), (.d (.int .u32 0)), (.d (.int .u64 0)), (.d (.int .u32 0)), (.d (.int .u8 0)), (.d (.int .u32 0)), (.d (.int .u8 0)), (.d (.int .u8 0)), (.d (.int .u32 0)), (.d (.int .u32 0)), (.d (.int .u8 0)), (.d (.int .u8 0)), (.d (.int .u64 0)), (.d (.int .u8 0)), (.d (.int .u32 0)), (.d (.int .u8 0)), (.d (.int .u32 0)), (.d (.int .u32 0)), (.d (.int .u32 0)), (.d (.int .u32 0)), (.d .nils)] [(0, 2, (.t 6)), (2, 8, (.t 7)), (10, 1, (.k (.d (.int .u64 2)))), (11, 1, (.k (.d (.int .u32 1)))), (12, 2, (.t 8)), (14, 1, (.k (.d (.int .u8 1)))), (15, 2, (.t 9)), (17, 1, (.k (.d (.int .u32 2)))), (18, 1, (.k (.d (.int .u8 7)))), (19, 1, (.k (.d (.int .u8 3)))), (20, 1, (.k (.d (.int .u64 500))))], none⟩,
⟨(some 11), .bld [(.d (.int .u8 0)), (.d (.int .u32 0))] [(1, 1, (.k (.d (.int .u32 3))))], none⟩,
⟨(some 12), .bld [(.d (.int .u32 0)), (.d (.int .u32 0)), (.d (.int .u32 0)), (.d (.int .u32 0)), (.d (.int .u32 0)), (.d (.int .u32 0)), (.d (.int .u32 0)), (.d (.int .u32 0))] [(0, 1, (.k (.d (.int .u32 2))))], none⟩,
⟨(some 13), .load (some 2) (.t 1), none⟩,
⟨(some 14), .bld [(.d (.int .u8 0)), (.d (.int .u32 0))] [(1, 1, (.k (.d (.int .u32 2))))], none⟩,
⟨(some 15), .bld [(.d (.int .u8 0)), (.d (.int .u32 0)), (.d (.int .u32 0)), (.d (.int .u32 0)), (.d (.int .u32 0)), (.d (.int .u32 0)), (.d (.int .u32 0)), (.d (.int .u32 0)), (.d (.int .u32 0)), (.d (.int .u32 0)), (.d (.int .u64 0)), (.d (.int .u32 0)), (.d (.int .u8 0)), (.d (.int .u32 0)), (.d (.int .u8 0)), (.d (.int .u8 0)), (.d (.int .u32 0)), (.d (.int .u32 0)), (.d (.int .u8 0)), (.d (.int .u8 0)), (.d (.int .u64 0)), (.d (.int .u8 0)), (.d (.int .u32 0)), (.d (.int .u8 0)), (.d (.int .u32 0)), (.d (.int .u32 0)), (.d (.int .u32 0)), (.d (.int .u32 0)), (.d .nils)] [(0, 2, (.t 11)), (2, 8, (.t 12)), (10, 1, (.k (.d (.int .u64 3)))), (11, 1, (.k (.d (.int .u32 2)))), (12, 2, (.t 13)), (14, 1, (.k (.d (.int .u8 1)))), (15, 2, (.t 14)), (17, 1, (.k (.d (.int .u32 3)))), (18, 1, (.k (.d (.int .u8 2)))), (20, 1, (.k (.d (.int .u64 100))))], none⟩,
⟨(some 16), .bsl 39 29 3 [(.d (.int .u8 0)), (.d (.int .u32 0)), (.d (.int .u32 0)), (.d (.int .u32 0)), (.d (.int .u32 0)), (.d (.int .u32 0)), (.d (.int .u32 0)), (.d (.int .u32 0)), (.d (.int .u32 0)), (.d (.int .u32 0)), (.d (.int .u64 0)), (.d (.int .u32 0)), (.d (.int .u8 0)), (.d (.int .u32 0)), (.d (.int .u8 0)), (.d (.int .u8 0)), (.d (.int .u32 0)), (.d (.int .u32 0)), (.d (.int .u8 0)), (.d (.int .u8 0)), (.d (.int .u64 0)), (.d (.int .u8 0)), (.d (.int .u32 0)), (.d (.int .u8 0)), (.d (.int .u32 0)), (.d (.int .u32 0)), (.d (.int .u32 0)), (.d (.int .u32 0)), (.d .nils), (.d (.int .u8 0)), (.d (.int .u32 0)), (.d (.int .u32 0)), (.d (.int .u32 0)), (.d (.int .u32 0)), (.d (.int .u32 0)), (.d (.int .u32 0)), (.d (.int .u32 0)), (.d (.int .u32 0)), (.d (.int .u32 0)), (.d (.int .u64 0)), (.d (.int .u32 0)), (.d (.int .u8 0)), (.d (.int .u32 0)), (.d (.int .u8 0)), (.d (.int .u8 0)), (.d (.int .u32 0)), (.d (.int .u32 0)), (.d (.int .u8 0)), (.d (.int .u8 0)), (.d (.int .u64 0)), (.d (.int .u8 0)), (.d (.int .u32 0)), (.d (.int .u8 0)), (.d (.int .u32 0)), (.d (.int .u32 0)), (.d (.int .u32 0)), (.d (.int .u32 0)), (.d .nils), (.d (.int .u8 0)), (.d (.int .u32 0)), (.d (.int .u32 0)), (.d (.int .u32 0)), (.d (.int .u32 0)), (.d (.int .u32 0)), (.d (.int .u32 0)), (.d (.int .u32 0)), (.d (.int .u32 0)), (.d (.int .u32 0)), (.d (.int .u64 0)), (.d (.int .u32 0)), (.d (.int .u8 0)), (.d (.int .u32 0)), (.d (.int .u8 0)), (.d (.int .u8 0)), (.d (.int .u32 0)), (.d (.int .u32 0)), (.d (.int .u8 0)), (.d (.int .u8 0)), (.d (.int .u64 0)), (.d (.int .u8 0)), (.d (.int .u32 0)), (.d (.int .u8 0)), (.d (.int .u32 0)), (.d (.int .u32 0)), (.d (.int .u32 0)), (.d (.int .u32 0)), (.d .nils)] [(0, 29, (.t 5)), (29, 29, (.t 10)), (58, 29, (.t 15))], none⟩,
⟨(some 0), .mv (.t 16), none⟩] (fullB 15) false)
.ret)))
def rv : List RV := [.tmp 0]
theorem c : cK Try.prog Try.f112.ntmps (Try.f112.body.getD .ret) = some s := by kernel_rfl
theorem b : Try.f112.body = some (Try.f112.body.getD .ret) := by kernel_rfl
theorem r : cRV Try.prog Try.f112.results.toList = some rv := by kernel_rfl
theorem ca : Callable Try.prog 112 = true := by kernel_rfl
theorem enter {args : List SV} {F : Hp} {k nk : Nat} {Q : SV → Hp → Prop} (hargs : SV.oks (fun n => decide (n < k)) args = true) (hF : F.ok (fun n => decide (n < k)) = true) (hN : args.length ≤ 17)
    (h : SW Try.prog 17 k s ⟨argE 0 args, F, k⟩ fun e st' => match e with | .normal => Fin k nk rv Q st' | .ret => Fin k nk rv Q st' | _ => False) : SB Try.prog 112 args F k nk Q :=
  SB.of_body Try.func112 b c r ca hargs hF hN h
end law22_row
namespace charge_spendsOf
abbrev f : Nat := 113
def s : SCo := (.seq
(.reg [⟨(some 2), .mv (.k (.d .nilm)), none⟩] (fullB 1) false)
(.seq
(.reg [⟨(some 8), .mkm, none⟩,
⟨(some 3), .mv (.t 8), none⟩] (fullB 2) false)
(.seq
(.seq
 (.reg [⟨(some 9), .mv (.t 0), none⟩,
⟨(some 10), .len (.t 9), none⟩,
⟨(some 11), .mv (.k (.d (.int .i64 0))), none⟩] (fullB 3) false)
 (.block 0
 (.loop
 (.seq
 (.reg [⟨(some 12), .bin .lss (.t 11) (.t 10), none⟩] (fullB 1) false)
 (.seq
  (.cond (.t 12)
  .skip
  (.exit 0))
  (.seq
  (.block 1
  (.seq
  (.reg [⟨(some 13), .idxS 3 (.t 9) (.t 11), none⟩,
⟨(some 14), .load (some 3) (.t 13), none⟩,
⟨(some 5), .alloc 80 [(.d (.int .u8 0)), (.d (.int .u32 0)), (.d (.int .u64 0))], none⟩,
⟨none, .store 3 (.t 5) (.t 14), none⟩] (fullB 4) false)
  (.seq
   (.reg [⟨(some 16), .mv (.t 3), none⟩,
⟨(some 17), .fld 0 (.t 5), none⟩,
⟨(some 18), .load (some 2) (.t 17), none⟩,
⟨(some 19), .look [true, true] true (.d (.int .u64 0)) (.t 16) (.t 18) true, none⟩,
⟨(some 15), .mv (.t 19), none⟩,
⟨(some 20), .ext 0 (.t 15), none⟩,
⟨(some 21), .ext 1 (.t 15), none⟩,
⟨(some 6), .mv (.t 20), none⟩,
⟨(some 7), .mv (.t 21), none⟩] (fullB 9) false)
   (.seq
   (.reg [⟨(some 22), .mv (.t 7), none⟩,
⟨(some 23), .not (.t 22), none⟩] (fullB 2) false)
   (.cond (.t 23)
   (.reg [⟨(some 24), .mv (.t 3), none⟩,
⟨(some 25), .fld 0 (.t 5), none⟩,
⟨(some 26), .load (some 2) (.t 25), none⟩,
⟨(some 27), .fld 2 (.t 5), none⟩,
⟨(some 28), .load none (.t 27), none⟩,
⟨none, .mset [true, true] true (.t 24) (.t 26) (.t 28), none⟩] (fullB 6) false)
   .skip)))))
  (.reg [⟨(some 29), .bin .add (.t 11) (.k (.d (.int .i64 1))), none⟩,
⟨(some 11), .mv (.t 29), none⟩] (fullB 2) false)))))))
(.seq
 (.reg [⟨(some 30), .mv (.t 3), none⟩,
⟨(some 2), .mv (.t 30), none⟩] (fullB 2) false)
 .ret))))
def rv : List RV := [.tmp 2]
theorem c : cK Try.prog Try.f113.ntmps (Try.f113.body.getD .ret) = some s := by kernel_rfl
theorem b : Try.f113.body = some (Try.f113.body.getD .ret) := by kernel_rfl
theorem r : cRV Try.prog Try.f113.results.toList = some rv := by kernel_rfl
theorem ca : Callable Try.prog 113 = true := by kernel_rfl
theorem enter {args : List SV} {F : Hp} {k nk : Nat} {Q : SV → Hp → Prop} (hargs : SV.oks (fun n => decide (n < k)) args = true) (hF : F.ok (fun n => decide (n < k)) = true) (hN : args.length ≤ 31)
    (h : SW Try.prog 31 k s ⟨argE 0 args, F, k⟩ fun e st' => match e with | .normal => Fin k nk rv Q st' | .ret => Fin k nk rv Q st' | _ => False) : SB Try.prog 113 args F k nk Q :=
  SB.of_body Try.func113 b c r ca hargs hF hN h
end charge_spendsOf
namespace charge_tight
abbrev f : Nat := 114
def s : SCo := (.seq
(.reg [⟨(some 3), .box 25 (.t 0), none⟩,
⟨(some 4), .box 165 (.t 1), none⟩,
⟨(some 6), .alloc 33 [(.d (.int .u8 0)), (.d (.int .u32 0))], none⟩,
⟨(some 7), .mv (.k (.d (.int .u64 0))), none⟩] (fullB 4) false)
(.seq
(.reg [⟨(some 12), .mkf (.func 163) [] [(.t 3), (.t 4)], none⟩,
⟨(some 8), .mv (.t 12), none⟩] (fullB 2) false)
(.seq
(.reg [⟨(some 13), .mv (.t 2), none⟩,
⟨(some 14), .idxS 2 (.t 13) (.k (.d (.int .i64 0))), none⟩,
⟨(some 15), .load (some 2) (.t 14), none⟩,
⟨(some 9), .alloc 33 [(.d (.int .u8 0)), (.d (.int .u32 0))], none⟩,
⟨none, .store 2 (.t 9) (.t 15), none⟩] (fullB 5) false)
(.seq
 (.seq
 (.reg [⟨(some 16), .mv (.t 2), none⟩,
⟨(some 17), .len (.t 16), none⟩,
⟨(some 18), .mv (.k (.d (.int .i64 0))), none⟩] (fullB 3) false)
 (.block 0
 (.loop
 (.seq
  (.reg [⟨(some 19), .bin .lss (.t 18) (.t 17), none⟩] (fullB 1) false)
  (.seq
  (.cond (.t 19)
  .skip
  (.exit 0))
  (.seq
  (.block 1
  (.seq
   (.reg [⟨(some 20), .idxS 2 (.t 16) (.t 18), none⟩,
⟨(some 21), .load (some 2) (.t 20), none⟩,
⟨(some 11), .alloc 33 [(.d (.int .u8 0)), (.d (.int .u32 0))], none⟩,
⟨none, .store 2 (.t 11) (.t 21), none⟩] (fullB 4) false)
   (.seq
   (.reg [⟨(some 22), .mv (.t 8), none⟩,
⟨(some 23), .load (some 2) (.t 11), none⟩,
⟨(some 24), .call (.t 22) [(.t 23)], none⟩,
⟨(some 25), .mv (.t 8), none⟩,
⟨(some 26), .load (some 2) (.t 9), none⟩,
⟨(some 27), .call (.t 25) [(.t 26)], none⟩,
⟨(some 28), .bin .lss (.t 24) (.t 27), none⟩] [0,
0,
3,
0,
0,
31,
63] true)
   (.cond (.t 28)
   (.reg [⟨(some 29), .load (some 2) (.t 11), none⟩,
⟨none, .store 2 (.t 9) (.t 29), none⟩] (fullB 2) false)
   .skip))))
  (.reg [⟨(some 30), .bin .add (.t 18) (.k (.d (.int .i64 1))), none⟩,
⟨(some 18), .mv (.t 30), none⟩] (fullB 2) false)))))))
 (.seq
 (.reg [⟨(some 31), .load (some 2) (.t 9), none⟩,
⟨(some 32), .mv (.t 8), none⟩,
⟨(some 33), .load (some 2) (.t 9), none⟩,
⟨(some 34), .call (.t 32) [(.t 33)], none⟩,
⟨none, .store 2 (.t 6) (.t 31), none⟩,
⟨(some 7), .mv (.t 34), none⟩] [0,
0,
0,
6,
15,
31] true)
 .ret)))))
def rv : List RV := [.cell 6 (some 2), .tmp 7]
theorem c : cK Try.prog Try.f114.ntmps (Try.f114.body.getD .ret) = some s := by kernel_rfl
theorem b : Try.f114.body = some (Try.f114.body.getD .ret) := by kernel_rfl
theorem r : cRV Try.prog Try.f114.results.toList = some rv := by kernel_rfl
theorem ca : Callable Try.prog 114 = true := by kernel_rfl
theorem enter {args : List SV} {F : Hp} {k nk : Nat} {Q : SV → Hp → Prop} (hargs : SV.oks (fun n => decide (n < k)) args = true) (hF : F.ok (fun n => decide (n < k)) = true) (hN : args.length ≤ 35)
    (h : SW Try.prog 35 k s ⟨argE 0 args, F, k⟩ fun e st' => match e with | .normal => Fin k nk rv Q st' | .ret => Fin k nk rv Q st' | _ => False) : SB Try.prog 114 args F k nk Q :=
  SB.of_body Try.func114 b c r ca hargs hF hN h
end charge_tight
namespace charge_spends_list
abbrev f : Nat := 115
def s : SCo := (.seq
(.reg [⟨(some 2), .mv (.k (.d .nils)), none⟩] (fullB 1) false)
(.seq
(.reg [⟨(some 3), .alloc 216 [(.d .nils)], none⟩] (fullB 1) false)
(.seq
(.seq
 (.reg [⟨(some 9), .mv (.t 0), none⟩,
⟨(some 10), .call (.k (.fn (.func 164) [] [])) [(.t 9)], none⟩] (fullB 2) false)
 (.block 0
 (.rfun (.t 10) [11, 12]
 (.seq
 (.reg [⟨(some 4), .alloc 33 [(.d (.int .u8 0)), (.d (.int .u32 0))], none⟩,
⟨none, .store 2 (.t 4) (.t 11), none⟩] (fullB 2) false)
 (.reg [⟨(some 5), .mv (.t 12), none⟩] (fullB 1) false))
 (.block 1
 (.seq
  (.reg [⟨(some 13), .mv (.t 5), none⟩,
⟨(some 14), .bin .gtr (.t 13) (.k (.d (.int .u64 0))), none⟩] (fullB 2) false)
  (.cond (.t 14)
  (.reg [⟨(some 15), .load none (.t 3), none⟩,
⟨(some 16), .load (some 2) (.t 4), none⟩,
⟨(some 17), .mv (.t 5), none⟩,
⟨(some 18), .bld [(.d (.int .u8 0)), (.d (.int .u32 0)), (.d (.int .u64 0))] [(0, 2, (.t 16)), (2, 1, (.t 17))], none⟩,
⟨(some 19), .bld [(.d (.int .u8 0)), (.d (.int .u32 0)), (.d (.int .u64 0))] [(0, 3, (.t 18))], none⟩,
⟨(some 20), .bsl 221 3 1 [(.d (.int .u8 0)), (.d (.int .u32 0)), (.d (.int .u64 0))] [(0, 3, (.t 19))], none⟩,
⟨(some 21), .app 221 3 16 (.t 15) (.t 20), none⟩,
⟨none, .store 1 (.t 3) (.t 21), none⟩] (fullB 8) false)
  .skip))))))
(.seq
 (.reg [⟨(some 22), .load none (.t 3), none⟩,
⟨(some 23), .call (.k (.fn (.func 165) [] [])) [(.t 22), (.k (.fn (.func 166) [] []))], none⟩] (fullB 2) false)
 (.seq
 (.reg [⟨(some 6), .mv (.k (.d .nils)), none⟩] (fullB 1) false)
 (.seq
 (.seq
 (.reg [⟨(some 24), .load none (.t 3), none⟩,
⟨(some 25), .len (.t 24), none⟩,
⟨(some 26), .mv (.k (.d (.int .i64 0))), none⟩] (fullB 3) false)
 (.block 2
  (.loop
  (.seq
  (.reg [⟨(some 27), .bin .lss (.t 26) (.t 25), none⟩] (fullB 1) false)
  (.seq
  (.cond (.t 27)
   .skip
   (.exit 2))
  (.seq
   (.block 3
   (.seq
   (.reg [⟨(some 28), .idxS 3 (.t 24) (.t 26), none⟩,
⟨(some 29), .load (some 3) (.t 28), none⟩,
⟨(some 8), .alloc 221 [(.d (.int .u8 0)), (.d (.int .u32 0)), (.d (.int .u64 0))], none⟩,
⟨none, .store 3 (.t 8) (.t 29), none⟩] (fullB 4) false)
   (.reg [⟨(some 30), .mv (.t 6), none⟩,
⟨(some 31), .fld 0 (.t 8), none⟩,
⟨(some 32), .load (some 3) (.t 31), none⟩,
⟨(some 33), .bsl 80 3 1 [(.d (.int .u8 0)), (.d (.int .u32 0)), (.d (.int .u64 0))] [(0, 3, (.t 32))], none⟩,
⟨(some 34), .app 80 3 16 (.t 30) (.t 33), none⟩,
⟨(some 6), .mv (.t 34), none⟩] (fullB 6) false)))
   (.reg [⟨(some 35), .bin .add (.t 26) (.k (.d (.int .i64 1))), none⟩,
⟨(some 26), .mv (.t 35), none⟩] (fullB 2) false)))))))
 (.seq
 (.reg [⟨(some 36), .mv (.t 6), none⟩,
⟨(some 2), .mv (.t 36), none⟩] (fullB 2) false)
 .ret)))))))
def rv : List RV := [.tmp 2]
theorem c : cK Try.prog Try.f115.ntmps (Try.f115.body.getD .ret) = some s := by kernel_rfl
theorem b : Try.f115.body = some (Try.f115.body.getD .ret) := by kernel_rfl
theorem r : cRV Try.prog Try.f115.results.toList = some rv := by kernel_rfl
theorem ca : Callable Try.prog 115 = true := by kernel_rfl
theorem enter {args : List SV} {F : Hp} {k nk : Nat} {Q : SV → Hp → Prop} (hargs : SV.oks (fun n => decide (n < k)) args = true) (hF : F.ok (fun n => decide (n < k)) = true) (hN : args.length ≤ 37)
    (h : SW Try.prog 37 k s ⟨argE 0 args, F, k⟩ fun e st' => match e with | .normal => Fin k nk rv Q st' | .ret => Fin k nk rv Q st' | _ => False) : SB Try.prog 115 args F k nk Q :=
  SB.of_body Try.func115 b c r ca hargs hF hN h
end charge_spends_list
namespace ref22_left
abbrev f : Nat := 116
def s : SCo := (.seq
(.reg [⟨(some 5), .box 33 (.t 2), none⟩,
⟨(some 6), .mv (.k (.d (.int .u64 0))), none⟩] (fullB 2) false)
(.seq
(.reg [⟨(some 11), .mv (.t 0), none⟩,
⟨(some 12), .load (some 2) (.t 5), none⟩,
⟨(some 13), .call (.k (.fn (.func 35) [] [])) [(.t 11), (.t 12)], none⟩,
⟨(some 10), .mv (.t 13), none⟩,
⟨(some 14), .ext 0 (.t 10), none⟩,
⟨(some 15), .ext 1 (.t 10), none⟩,
⟨(some 7), .alloc 41 [(.d (.int .u8 0)), (.d (.int .u32 0)), (.d (.int .u8 0)), (.d (.int .u32 0)), (.d (.int .u8 0)), (.d (.int .u32 0)), (.d (.int .u32 0)), (.d (.int .u8 0)), (.d (.int .u8 0)), (.d (.int .u64 0)), (.d (.int .i64 0))], none⟩,
⟨none, .store 11 (.t 7) (.t 14), none⟩,
⟨(some 8), .mv (.t 15), none⟩] (fullB 9) false)
(.seq
(.reg [⟨(some 16), .mv (.t 1), none⟩,
⟨(some 17), .load (some 2) (.t 5), none⟩,
⟨(some 18), .call (.k (.fn (.func 53) [] [])) [(.t 16), (.t 17)], none⟩,
⟨(some 9), .mv (.t 18), none⟩] (fullB 4) false)
(.seq
 (.seq
 (.reg [⟨(some 19), .mv (.t 9), none⟩,
⟨(some 20), .fld 9 (.t 7), none⟩,
⟨(some 21), .load none (.t 20), none⟩,
⟨(some 22), .bin .geq (.t 19) (.t 21), none⟩] (fullB 4) false)
 (.cond (.t 22)
 (.seq
 (.reg [⟨(some 6), .mv (.k (.d (.int .u64 0))), none⟩] (fullB 1) false)
 .ret)
 .skip))
 (.seq
 (.reg [⟨(some 23), .fld 9 (.t 7), none⟩,
⟨(some 24), .load none (.t 23), none⟩,
⟨(some 25), .mv (.t 9), none⟩,
⟨(some 26), .bin .sub (.t 24) (.t 25), none⟩,
⟨(some 6), .mv (.t 26), none⟩] (fullB 5) false)
 .ret)))))
def rv : List RV := [.tmp 6]
theorem c : cK Try.prog Try.f116.ntmps (Try.f116.body.getD .ret) = some s := by kernel_rfl
theorem b : Try.f116.body = some (Try.f116.body.getD .ret) := by kernel_rfl
theorem r : cRV Try.prog Try.f116.results.toList = some rv := by kernel_rfl
theorem ca : Callable Try.prog 116 = true := by kernel_rfl
theorem enter {args : List SV} {F : Hp} {k nk : Nat} {Q : SV → Hp → Prop} (hargs : SV.oks (fun n => decide (n < k)) args = true) (hF : F.ok (fun n => decide (n < k)) = true) (hN : args.length ≤ 27)
    (h : SW Try.prog 27 k s ⟨argE 0 args, F, k⟩ fun e st' => match e with | .normal => Fin k nk rv Q st' | .ret => Fin k nk rv Q st' | _ => False) : SB Try.prog 116 args F k nk Q :=
  SB.of_body Try.func116 b c r ca hargs hF hN h
end ref22_left
namespace charge_tight_1
abbrev f : Nat := 163
def s : SCo := (.seq
(.reg [⟨(some 3), .box 33 (.t 0), none⟩,
⟨(some 4), .mv (.k (.d (.int .u64 0))), none⟩] (fullB 2) false)
(.seq
(.reg [⟨(some 8), .load none (.t 1), none⟩,
⟨(some 9), .load (some 2) (.t 3), none⟩,
⟨(some 10), .call (.k (.fn (.func 24) [] [])) [(.t 8), (.t 9)], none⟩,
⟨(some 7), .mv (.t 10), none⟩,
⟨(some 11), .ext 0 (.t 7), none⟩,
⟨(some 12), .ext 1 (.t 7), none⟩,
⟨(some 5), .alloc 41 [(.d (.int .u8 0)), (.d (.int .u32 0)), (.d (.int .u8 0)), (.d (.int .u32 0)), (.d (.int .u8 0)), (.d (.int .u32 0)), (.d (.int .u32 0)), (.d (.int .u8 0)), (.d (.int .u8 0)), (.d (.int .u64 0)), (.d (.int .i64 0))], none⟩,
⟨none, .store 11 (.t 5) (.t 11), none⟩,
⟨(some 6), .mv (.t 12), none⟩] (fullB 9) false)
(.seq
(.reg [⟨(some 13), .fld 9 (.t 5), none⟩,
⟨(some 14), .load none (.t 13), none⟩,
⟨(some 15), .fld 9 (.t 5), none⟩,
⟨(some 16), .load none (.t 15), none⟩,
⟨(some 17), .load none (.t 2), none⟩,
⟨(some 18), .load (some 2) (.t 3), none⟩,
⟨(some 19), .look [true, true] true (.d (.int .u64 0)) (.t 17) (.t 18) false, none⟩,
⟨(some 20), .mn (.t 16) (.t 19), none⟩,
⟨(some 21), .bin .sub (.t 14) (.t 20), none⟩,
⟨(some 4), .mv (.t 21), none⟩] [0,
1,
0,
4,
0,
0,
48,
124,
255,
511] true)
.ret)))
def rv : List RV := [.tmp 4]
theorem c : cK Try.prog Try.f163.ntmps (Try.f163.body.getD .ret) = some s := by kernel_rfl
theorem b : Try.f163.body = some (Try.f163.body.getD .ret) := by kernel_rfl
theorem r : cRV Try.prog Try.f163.results.toList = some rv := by kernel_rfl
theorem ca : Callable Try.prog 163 = true := by kernel_rfl
theorem enter {args : List SV} {F : Hp} {k nk : Nat} {Q : SV → Hp → Prop} (hargs : SV.oks (fun n => decide (n < k)) args = true) (hF : F.ok (fun n => decide (n < k)) = true) (hN : args.length ≤ 22)
    (h : SW Try.prog 22 k s ⟨argE 0 args, F, k⟩ fun e st' => match e with | .normal => Fin k nk rv Q st' | .ret => Fin k nk rv Q st' | _ => False) : SB Try.prog 163 args F k nk Q :=
  SB.of_body Try.func163 b c r ca hargs hF hN h
end charge_tight_1
namespace maps_All_charge_spends_api_Dot_uint64
abbrev f : Nat := 164
def s : SCo := (.seq
(.reg [⟨(some 1), .box 165 (.t 0), none⟩,
⟨(some 2), .mv (.k (.d .nilf)), none⟩] (fullB 2) false)
(.seq
(.reg [⟨(some 3), .mkf (.func 193) [] [(.t 1)], none⟩,
⟨(some 2), .mv (.t 3), none⟩] (fullB 2) false)
.ret))
def rv : List RV := [.tmp 2]
theorem c : cK Try.prog Try.f164.ntmps (Try.f164.body.getD .ret) = some s := by kernel_rfl
theorem b : Try.f164.body = some (Try.f164.body.getD .ret) := by kernel_rfl
theorem r : cRV Try.prog Try.f164.results.toList = some rv := by kernel_rfl
theorem ca : Callable Try.prog 164 = true := by kernel_rfl
theorem enter {args : List SV} {F : Hp} {k nk : Nat} {Q : SV → Hp → Prop} (hargs : SV.oks (fun n => decide (n < k)) args = true) (hF : F.ok (fun n => decide (n < k)) = true) (hN : args.length ≤ 4)
    (h : SW Try.prog 4 k s ⟨argE 0 args, F, k⟩ fun e st' => match e with | .normal => Fin k nk rv Q st' | .ret => Fin k nk rv Q st' | _ => False) : SB Try.prog 164 args F k nk Q :=
  SB.of_body Try.func164 b c r ca hargs hF hN h
end maps_All_charge_spends_api_Dot_uint64
namespace charge_pair_compare
abbrev f : Nat := 166
def s : SCo := (.seq
(.reg [⟨(some 2), .box 221 (.t 0), none⟩,
⟨(some 3), .box 221 (.t 1), none⟩,
⟨(some 4), .mv (.k (.d (.int .i64 0))), none⟩] (fullB 3) false)
(.seq
(.reg [⟨(some 5), .fld 0 (.t 2), none⟩,
⟨(some 6), .fld 0 (.t 5), none⟩,
⟨(some 7), .load (some 2) (.t 6), none⟩,
⟨(some 8), .fld 0 (.t 3), none⟩,
⟨(some 9), .fld 0 (.t 8), none⟩,
⟨(some 10), .load (some 2) (.t 9), none⟩,
⟨(some 11), .call (.k (.fn (.func 104) [] [])) [(.t 7), (.t 10)], none⟩,
⟨(some 4), .mv (.t 11), none⟩] (fullB 8) false)
.ret))
def rv : List RV := [.tmp 4]
theorem c : cK Try.prog Try.f166.ntmps (Try.f166.body.getD .ret) = some s := by kernel_rfl
theorem b : Try.f166.body = some (Try.f166.body.getD .ret) := by kernel_rfl
theorem r : cRV Try.prog Try.f166.results.toList = some rv := by kernel_rfl
theorem ca : Callable Try.prog 166 = true := by kernel_rfl
theorem enter {args : List SV} {F : Hp} {k nk : Nat} {Q : SV → Hp → Prop} (hargs : SV.oks (fun n => decide (n < k)) args = true) (hF : F.ok (fun n => decide (n < k)) = true) (hN : args.length ≤ 12)
    (h : SW Try.prog 12 k s ⟨argE 0 args, F, k⟩ fun e st' => match e with | .normal => Fin k nk rv Q st' | .ret => Fin k nk rv Q st' | _ => False) : SB Try.prog 166 args F k nk Q :=
  SB.of_body Try.func166 b c r ca hargs hF hN h
end charge_pair_compare
namespace maps_All_charge_spends_api_Dot_uint64_1
abbrev f : Nat := 193
def s : SCo := (.seq
(.reg [⟨(some 5), .load none (.t 1), none⟩,
⟨(some 6), .mrange (.t 5), none⟩] (fullB 2) false)
(.block 0
(.loop
(.seq
 (.reg [⟨(some 7), .mnext (.t 6), none⟩,
⟨(some 8), .ext 0 (.t 7), none⟩] (fullB 2) false)
 (.seq
 (.cond (.t 8)
 .skip
 (.exit 0))
 (.block 1
 (.seq
 (.reg [⟨(some 9), .mentry (.t 6), none⟩,
⟨(some 10), .ext 0 (.t 9), none⟩,
⟨(some 11), .ext 1 (.t 9), none⟩,
⟨(some 3), .alloc 33 [(.d (.int .u8 0)), (.d (.int .u32 0))], none⟩,
⟨none, .store 2 (.t 3) (.t 10), none⟩,
⟨(some 4), .mv (.t 11), none⟩] (fullB 6) false)
 (.seq
  (.reg [⟨(some 12), .mv (.t 0), none⟩,
⟨(some 13), .load (some 2) (.t 3), none⟩,
⟨(some 14), .mv (.t 4), none⟩,
⟨(some 15), .call (.t 12) [(.t 13), (.t 14)], none⟩,
⟨(some 16), .not (.t 15), none⟩] (fullB 5) false)
  (.cond (.t 16)
  .ret
  .skip)))))))))
def rv : List RV := []
theorem c : cK Try.prog Try.f193.ntmps (Try.f193.body.getD .ret) = some s := by kernel_rfl
theorem b : Try.f193.body = some (Try.f193.body.getD .ret) := by kernel_rfl
theorem r : cRV Try.prog Try.f193.results.toList = some rv := by kernel_rfl
theorem ca : Callable Try.prog 193 = true := by kernel_rfl
theorem enter {args : List SV} {F : Hp} {k nk : Nat} {Q : SV → Hp → Prop} (hargs : SV.oks (fun n => decide (n < k)) args = true) (hF : F.ok (fun n => decide (n < k)) = true) (hN : args.length ≤ 17)
    (h : SW Try.prog 17 k s ⟨argE 0 args, F, k⟩ fun e st' => match e with | .normal => Fin k nk rv Q st' | .ret => Fin k nk rv Q st' | _ => False) : SB Try.prog 193 args F k nk Q :=
  SB.of_body Try.func193 b c r ca hargs hF hN h
end maps_All_charge_spends_api_Dot_uint64_1
end Go.Proofs.Ytmmonbnlleeloaa
