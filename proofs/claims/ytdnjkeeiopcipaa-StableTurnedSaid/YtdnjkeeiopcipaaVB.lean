
import Derived.Test.YtdnjkeeiopcipaaVA
set_option linter.unusedVariables false
set_option linter.unusedSimpArgs false
set_option linter.unusedSectionVars false
namespace Go.Proofs.Ytdnjkeeiopcipaa
open Go.Sl Go.Proofs
/-! ### tranter.tranterref04.Same -/
namespace ref04_Same
abbrev f : Nat := 29
def s : SCo := (.seq
(.reg [⟨(some 4), .mv (.k (.d (.bool false))), none⟩] (fullB 1) false)
(.seq
(.seq
(.reg [⟨(some 6), .mv (.t 0), none⟩,
⟨(some 7), .len (.t 6), none⟩,
⟨(some 8), .mv (.t 1), none⟩,
⟨(some 9), .len (.t 8), none⟩,
⟨(some 10), .bin .neq (.t 7) (.t 9), none⟩] (fullB 5) false)
(.cond (.t 10)
 (.seq
 (.reg [⟨(some 4), .mv (.k (.d (.bool false))), none⟩] (fullB 1) false)
 .ret)
 .skip))
(.seq
(.seq
 (.reg [⟨(some 5), .mv (.k (.d (.int .i64 0))), none⟩] (fullB 1) false)
 (.block 0
 (.loop
 (.seq
 (.seq
  (.reg [⟨(some 11), .mv (.t 5), none⟩,
⟨(some 12), .mv (.t 0), none⟩,
⟨(some 13), .len (.t 12), none⟩,
⟨(some 14), .bin .lss (.t 11) (.t 13), none⟩] (fullB 4) false)
  (.cond (.t 14)
  .skip
  (.exit 0)))
 (.seq
  (.block 1
  (.seq
  (.reg [⟨(some 17), .mv (.t 0), none⟩,
⟨(some 18), .mv (.t 5), none⟩,
⟨(some 19), .idxS 8 (.t 17) (.t 18), none⟩,
⟨(some 20), .load (some 8) (.t 19), none⟩,
⟨(some 21), .mv (.t 1), none⟩,
⟨(some 22), .mv (.t 5), none⟩,
⟨(some 23), .idxS 8 (.t 21) (.t 22), none⟩,
⟨(some 24), .load (some 8) (.t 23), none⟩,
⟨(some 25), .eqv true [true, true, true, true, true, true, true, true] (.t 20) (.t 24), none⟩] [0,
0,
3,
7,
0,
0,
48,
112,
255] true)
  (.cond (.t 25)
  (.seq
   (.reg [⟨(some 4), .mv (.k (.d (.bool false))), none⟩] (fullB 1) false)
   .ret)
  .skip)))
  (.reg [⟨(some 15), .mv (.t 5), none⟩,
⟨(some 16), .bin .add (.t 15) (.k (.d (.int .i64 1))), none⟩,
⟨(some 5), .mv (.t 16), none⟩] (fullB 3) false))))))
(.seq
 (.reg [⟨(some 4), .mv (.k (.d (.bool true))), none⟩] (fullB 1) false)
 .ret))))
def rv : List RV := [.tmp 4]
/-! live ref04_Same: [0, 1, 4, 5, 10, 14, 25] -/
theorem c : cK Try.prog Try.f29.ntmps (Try.f29.body.getD .ret) = some s := by kernel_rfl
theorem b : Try.f29.body = some (Try.f29.body.getD .ret) := by kernel_rfl
theorem r : cRV Try.prog Try.f29.results.toList = some rv := by kernel_rfl
theorem ca : Callable Try.prog 29 = true := by kernel_rfl
theorem enter {args : List SV} {F : Hp} {k nk : Nat} {Q : SV → Hp → Prop} (hargs : SV.oks (fun n => decide (n < k)) args = true) (hF : F.ok (fun n => decide (n < k)) = true) (hN : args.length ≤ 26)
    (h : SW Try.prog 26 k s ⟨argE 0 args, F, k⟩ fun e st' => match e with | .normal => Fin k nk rv Q st' | .ret => Fin k nk rv Q st' | _ => False) : SB Try.prog 29 args F k nk Q :=
  SB.of_body Try.func29 b c r ca hargs hF hN h
end ref04_Same
/-! ### tranter.vector.Tops -/
namespace vector_Tops
abbrev f : Nat := 30
def s : SCo := (.seq
(.reg [⟨(some 2), .mv (.k (.d .nils)), none⟩] (fullB 1) false)
(.seq
(.reg [⟨(some 8), .mkm, none⟩,
⟨(some 3), .mv (.t 8), none⟩] (fullB 2) false)
(.seq
(.reg [⟨(some 4), .mv (.k (.d .nils)), none⟩] (fullB 1) false)
(.seq
 (.seq
 (.reg [⟨(some 9), .mv (.t 0), none⟩,
⟨(some 10), .len (.t 9), none⟩,
⟨(some 11), .mv (.k (.d (.int .i64 0))), none⟩] (fullB 3) false)
 (.block 0
 (.loop
 (.seq
  (.reg [⟨(some 12), .bin .lss (.t 11) (.t 10), none⟩] (fullB 1) false)
  (.seq
  (.cond (.t 12)
  .skip
  (.exit 0))
  (.seq
  (.block 1
  (.seq
   (.reg [⟨(some 13), .idxS 8 (.t 9) (.t 11), none⟩,
⟨(some 14), .load (some 8) (.t 13), none⟩,
⟨(some 6), .alloc 25 [(.d (.int .u32 0)), (.d (.int .u32 0)), (.d (.int .u32 0)), (.d (.int .u32 0)), (.d (.int .u32 0)), (.d (.int .u32 0)), (.d (.int .u32 0)), (.d (.int .u32 0))], none⟩,
⟨none, .store 8 (.t 6) (.t 14), none⟩] (fullB 4) false)
   (.seq
   (.reg [⟨(some 15), .mv (.t 0), none⟩,
⟨(some 16), .mkf (.func 64) [] [(.t 6)], none⟩,
⟨(some 17), .call (.k (.fn (.func 63) [] [])) [(.t 15), (.t 16)], none⟩,
⟨(some 18), .not (.t 17), none⟩,
⟨(some 7), .mv (.t 18), none⟩] (fullB 5) false)
   (.seq
   (.reg [⟨(some 19), .mv (.t 7), none⟩,
⟨(some 20), .mv (.t 19), none⟩,
⟨(some 21), .mv (.t 3), some (20, true)⟩,
⟨(some 22), .load (some 8) (.t 6), some (20, true)⟩,
⟨(some 23), .look [true, true, true, true, true, true, true, true] true (.d (.int .i64 0)) (.t 21) (.t 22) false, some (20, true)⟩,
⟨(some 24), .bin .eql (.t 23) (.k (.d (.int .i64 0))), some (20, true)⟩,
⟨(some 25), .pick (.t 20) (.t 24) (.k (.d (.bool false))), none⟩] (fullB 7) false)
   (.cond (.t 25)
   (.seq
    (.reg [⟨(some 26), .mv (.t 3), none⟩,
⟨(some 27), .load (some 8) (.t 6), none⟩,
⟨none, .mset [true, true, true, true, true, true, true, true] true (.t 26) (.t 27) (.k (.d (.int .i64 1))), none⟩] (fullB 3) false)
    (.reg [⟨(some 28), .mv (.t 4), none⟩,
⟨(some 29), .load (some 8) (.t 6), none⟩,
⟨(some 30), .bsl 25 8 1 [(.d (.int .u32 0)), (.d (.int .u32 0)), (.d (.int .u32 0)), (.d (.int .u32 0)), (.d (.int .u32 0)), (.d (.int .u32 0)), (.d (.int .u32 0)), (.d (.int .u32 0))] [(0, 8, (.t 29))], none⟩,
⟨(some 31), .app 25 8 32 (.t 28) (.t 30), none⟩,
⟨(some 4), .mv (.t 31), none⟩] (fullB 5) false))
   .skip)))))
  (.reg [⟨(some 32), .bin .add (.t 11) (.k (.d (.int .i64 1))), none⟩,
⟨(some 11), .mv (.t 32), none⟩] (fullB 2) false)))))))
 (.seq
 (.reg [⟨(some 33), .mv (.t 4), none⟩,
⟨(some 2), .mv (.t 33), none⟩] (fullB 2) false)
 .ret)))))
def rv : List RV := [.tmp 2]
/-! live vector_Tops: [0, 2, 3, 4, 6, 7, 9, 10, 11, 12, 25] -/
theorem c : cK Try.prog Try.f30.ntmps (Try.f30.body.getD .ret) = some s := by kernel_rfl
theorem b : Try.f30.body = some (Try.f30.body.getD .ret) := by kernel_rfl
theorem r : cRV Try.prog Try.f30.results.toList = some rv := by kernel_rfl
theorem ca : Callable Try.prog 30 = true := by kernel_rfl
theorem enter {args : List SV} {F : Hp} {k nk : Nat} {Q : SV → Hp → Prop} (hargs : SV.oks (fun n => decide (n < k)) args = true) (hF : F.ok (fun n => decide (n < k)) = true) (hN : args.length ≤ 34)
    (h : SW Try.prog 34 k s ⟨argE 0 args, F, k⟩ fun e st' => match e with | .normal => Fin k nk rv Q st' | .ret => Fin k nk rv Q st' | _ => False) : SB Try.prog 30 args F k nk Q :=
  SB.of_body Try.func30 b c r ca hargs hF hN h
end vector_Tops
/-! ### tranter.tranterref04.Tops -/
namespace ref04_Tops
abbrev f : Nat := 31
def s : SCo := (.seq
(.reg [⟨(some 2), .mv (.k (.d .nils)), none⟩] (fullB 1) false)
(.seq
(.reg [⟨(some 3), .mv (.k (.d .nils)), none⟩] (fullB 1) false)
(.seq
(.seq
 (.reg [⟨(some 4), .mv (.k (.d (.int .i64 0))), none⟩] (fullB 1) false)
 (.block 0
 (.loop
 (.seq
 (.seq
  (.reg [⟨(some 7), .mv (.t 4), none⟩,
⟨(some 8), .mv (.t 0), none⟩,
⟨(some 9), .len (.t 8), none⟩,
⟨(some 10), .bin .lss (.t 7) (.t 9), none⟩] (fullB 4) false)
  (.cond (.t 10)
  .skip
  (.exit 0)))
 (.seq
  (.block 1
  (.seq
  (.reg [⟨(some 5), .mv (.k (.d (.bool true))), none⟩] (fullB 1) false)
  (.seq
  (.seq
   (.reg [⟨(some 6), .mv (.k (.d (.int .i64 0))), none⟩] (fullB 1) false)
   (.block 2
   (.loop
   (.seq
   (.seq
    (.reg [⟨(some 13), .mv (.t 6), none⟩,
⟨(some 14), .mv (.t 0), none⟩,
⟨(some 15), .len (.t 14), none⟩,
⟨(some 16), .bin .lss (.t 13) (.t 15), none⟩] (fullB 4) false)
    (.cond (.t 16)
    .skip
    (.exit 2)))
   (.seq
    (.block 3
    (.seq
    (.reg (⟨(some 19), .mv (.t 0), none⟩ ::
⟨(some 20), .mv (.t 6), none⟩ ::
⟨(some 21), .idxS 8 (.t 19) (.t 20), none⟩ ::
⟨(some 22), .load (some 8) (.t 21), none⟩ ::
⟨(some 23), .mv (.t 0), none⟩ ::
⟨(some 24), .mv (.t 4), none⟩ ::
⟨(some 25), .idxS 8 (.t 23) (.t 24), none⟩ ::
⟨(some 26), .load (some 8) (.t 25), none⟩ ::
⟨(some 27), .call (.k (.fn (.func 23) [] [])) [(.t 22), (.t 26)], none⟩ ::
⟨(some 28), .mv (.t 27), none⟩ ::
⟨(some 29), .mv (.t 0), some (28, true)⟩ ::
⟨(some 30), .mv (.t 6), some (28, true)⟩ ::
⟨(some 31), .idxS 8 (.t 29) (.t 30), some (28, true)⟩ ::
⟨(some 32), .load (some 8) (.t 31), some (28, true)⟩ ::
⟨(some 33), .mv (.t 0), some (28, true)⟩ ::
⟨(some 34), .mv (.t 4), some (28, true)⟩ ::
⟨(some 35), .idxS 8 (.t 33) (.t 34), some (28, true)⟩ ::
⟨(some 36), .load (some 8) (.t 35), some (28, true)⟩ ::
⟨(some 37), .eqv true [true, true, true, true, true, true, true, true] (.t 32) (.t 36), some (28, true)⟩ ::
⟨(some 38), .mv (.t 37), some (28, true)⟩ ::
⟨(some 39), .mv (.t 6), some (38, false)⟩ ::
⟨(some 40), .mv (.t 4), some (38, false)⟩ ::
⟨(some 41), .bin .lss (.t 39) (.t 40), some (38, false)⟩ ::
⟨(some 42), .pick (.t 38) (.k (.d (.bool true))) (.t 41), some (28, true)⟩ ::
⟨(some 43), .pick (.t 28) (.t 42) (.k (.d (.bool false))), none⟩ :: []) (0 ::
0 ::
3 ::
7 ::
0 ::
0 ::
48 ::
112 ::
255 ::
511 ::
1023 ::
1023 ::
4095 ::
8191 ::
1023 ::
1023 ::
50175 ::
115711 ::
262143 ::
524287 ::
1048575 ::
1048575 ::
4194303 ::
8388607 ::
16777215 :: []) true)
    (.cond (.t 43)
    (.reg [⟨(some 5), .mv (.k (.d (.bool false))), none⟩] (fullB 1) false)
    .skip)))
    (.reg [⟨(some 17), .mv (.t 6), none⟩,
⟨(some 18), .bin .add (.t 17) (.k (.d (.int .i64 1))), none⟩,
⟨(some 6), .mv (.t 18), none⟩] (fullB 3) false))))))
  (.seq
   (.reg [⟨(some 44), .mv (.t 5), none⟩] (fullB 1) false)
   (.cond (.t 44)
   (.reg [⟨(some 45), .mv (.t 3), none⟩,
⟨(some 46), .mv (.t 0), none⟩,
⟨(some 47), .mv (.t 4), none⟩,
⟨(some 48), .idxS 8 (.t 46) (.t 47), none⟩,
⟨(some 49), .load (some 8) (.t 48), none⟩,
⟨(some 50), .bsl 25 8 1 [(.d (.int .u32 0)), (.d (.int .u32 0)), (.d (.int .u32 0)), (.d (.int .u32 0)), (.d (.int .u32 0)), (.d (.int .u32 0)), (.d (.int .u32 0)), (.d (.int .u32 0))] [(0, 8, (.t 49))], none⟩,
⟨(some 51), .app 25 8 32 (.t 45) (.t 50), none⟩,
⟨(some 3), .mv (.t 51), none⟩] (fullB 8) false)
   .skip)))))
  (.reg [⟨(some 11), .mv (.t 4), none⟩,
⟨(some 12), .bin .add (.t 11) (.k (.d (.int .i64 1))), none⟩,
⟨(some 4), .mv (.t 12), none⟩] (fullB 3) false))))))
(.seq
 (.reg [⟨(some 52), .mv (.t 3), none⟩,
⟨(some 2), .mv (.t 52), none⟩] (fullB 2) false)
 .ret))))
def rv : List RV := [.tmp 2]
/-! live ref04_Tops: [0, 2, 3, 4, 5, 6, 10, 16, 43, 44] -/
theorem c : cK Try.prog Try.f31.ntmps (Try.f31.body.getD .ret) = some s := by kernel_rfl
theorem b : Try.f31.body = some (Try.f31.body.getD .ret) := by kernel_rfl
theorem r : cRV Try.prog Try.f31.results.toList = some rv := by kernel_rfl
theorem ca : Callable Try.prog 31 = true := by kernel_rfl
theorem enter {args : List SV} {F : Hp} {k nk : Nat} {Q : SV → Hp → Prop} (hargs : SV.oks (fun n => decide (n < k)) args = true) (hF : F.ok (fun n => decide (n < k)) = true) (hN : args.length ≤ 53)
    (h : SW Try.prog 53 k s ⟨argE 0 args, F, k⟩ fun e st' => match e with | .normal => Fin k nk rv Q st' | .ret => Fin k nk rv Q st' | _ => False) : SB Try.prog 31 args F k nk Q :=
  SB.of_body Try.func31 b c r ca hargs hF hN h
end ref04_Tops
/-! ### tranter.vector.Above -/
namespace vector_Above
abbrev f : Nat := 32
def s : SCo := (.seq
(.reg [⟨(some 2), .box 25 (.t 0), none⟩,
⟨(some 3), .box 25 (.t 1), none⟩,
⟨(some 4), .mv (.k (.d (.bool false))), none⟩] (fullB 3) false)
(.seq
(.reg [⟨(some 5), .load (some 8) (.t 2), none⟩,
⟨(some 6), .load (some 8) (.t 3), none⟩,
⟨(some 7), .bsl 25 8 2 [(.d (.int .u32 0)), (.d (.int .u32 0)), (.d (.int .u32 0)), (.d (.int .u32 0)), (.d (.int .u32 0)), (.d (.int .u32 0)), (.d (.int .u32 0)), (.d (.int .u32 0)), (.d (.int .u32 0)), (.d (.int .u32 0)), (.d (.int .u32 0)), (.d (.int .u32 0)), (.d (.int .u32 0)), (.d (.int .u32 0)), (.d (.int .u32 0)), (.d (.int .u32 0))] [(0, 8, (.t 5)), (8, 8, (.t 6))], none⟩,
⟨(some 8), .call (.k (.fn (.func 25) [] [])) [(.t 7)], none⟩,
⟨(some 9), .load (some 8) (.t 2), none⟩,
⟨(some 10), .eqv false [true, true, true, true, true, true, true, true] (.t 8) (.t 9), none⟩,
⟨(some 4), .mv (.t 10), none⟩] [0,
0,
3,
7,
0,
31,
63] true)
.ret))
def rv : List RV := [.tmp 4]
/-! live vector_Above: [0, 1, 2, 3, 4] -/
theorem c : cK Try.prog Try.f32.ntmps (Try.f32.body.getD .ret) = some s := by kernel_rfl
theorem b : Try.f32.body = some (Try.f32.body.getD .ret) := by kernel_rfl
theorem r : cRV Try.prog Try.f32.results.toList = some rv := by kernel_rfl
theorem ca : Callable Try.prog 32 = true := by kernel_rfl
theorem enter {args : List SV} {F : Hp} {k nk : Nat} {Q : SV → Hp → Prop} (hargs : SV.oks (fun n => decide (n < k)) args = true) (hF : F.ok (fun n => decide (n < k)) = true) (hN : args.length ≤ 11)
    (h : SW Try.prog 11 k s ⟨argE 0 args, F, k⟩ fun e st' => match e with | .normal => Fin k nk rv Q st' | .ret => Fin k nk rv Q st' | _ => False) : SB Try.prog 32 args F k nk Q :=
  SB.of_body Try.func32 b c r ca hargs hF hN h
end vector_Above
/-! ### tranter.vector.Covers -/
namespace vector_Covers
abbrev f : Nat := 33
def s : SCo := (.seq
(.reg [⟨(some 2), .box 25 (.t 0), none⟩,
⟨(some 3), .box 44 (.t 1), none⟩,
⟨(some 4), .mv (.k (.d (.bool false))), none⟩] (fullB 3) false)
(.seq
(.reg [⟨(some 5), .load (some 2) (.t 3), none⟩,
⟨(some 6), .call (.k (.fn (.func 65) [] [])) [(.t 5)], none⟩,
⟨(some 7), .mv (.t 6), none⟩,
⟨(some 8), .fld 0 (.t 3), some (7, true)⟩,
⟨(some 9), .load none (.t 8), some (7, true)⟩,
⟨(some 10), .idxA 8 1 (.t 2) (.t 9), some (7, true)⟩,
⟨(some 11), .load none (.t 10), some (7, true)⟩,
⟨(some 12), .fld 1 (.t 3), some (7, true)⟩,
⟨(some 13), .load none (.t 12), some (7, true)⟩,
⟨(some 14), .bin .geq (.t 11) (.t 13), some (7, true)⟩,
⟨(some 15), .pick (.t 7) (.t 14) (.k (.d (.bool false))), none⟩,
⟨(some 4), .mv (.t 15), none⟩] [0,
1,
3,
7,
15,
31,
63,
7,
135,
511,
1023,
2047] true)
.ret))
def rv : List RV := [.tmp 4]
/-! live vector_Covers: [0, 1, 2, 3, 4] -/
theorem c : cK Try.prog Try.f33.ntmps (Try.f33.body.getD .ret) = some s := by kernel_rfl
theorem b : Try.f33.body = some (Try.f33.body.getD .ret) := by kernel_rfl
theorem r : cRV Try.prog Try.f33.results.toList = some rv := by kernel_rfl
theorem ca : Callable Try.prog 33 = true := by kernel_rfl
theorem enter {args : List SV} {F : Hp} {k nk : Nat} {Q : SV → Hp → Prop} (hargs : SV.oks (fun n => decide (n < k)) args = true) (hF : F.ok (fun n => decide (n < k)) = true) (hN : args.length ≤ 16)
    (h : SW Try.prog 16 k s ⟨argE 0 args, F, k⟩ fun e st' => match e with | .normal => Fin k nk rv Q st' | .ret => Fin k nk rv Q st' | _ => False) : SB Try.prog 33 args F k nk Q :=
  SB.of_body Try.func33 b c r ca hargs hF hN h
end vector_Covers
/-! ### tranter.vector.Next -/
namespace vector_Next
abbrev f : Nat := 34
def s : SCo := (.seq
(.reg [⟨(some 2), .box 25 (.t 0), none⟩,
⟨(some 4), .alloc 44 [(.d (.int .u8 0)), (.d (.int .u32 0))], none⟩,
⟨(some 5), .mv (.k (.d (.int .i64 0))), none⟩] (fullB 3) false)
(.seq
(.block 0
(.seq
 (.reg [⟨(some 7), .mv (.t 1), none⟩,
⟨(some 8), .conv .i64 (.t 7), none⟩,
⟨(some 9), .bin .geq (.t 8) (.k (.d (.int .i64 8))), none⟩,
⟨(some 6), .mv (.t 9), none⟩] (fullB 4) false)
 (.cond (.t 6)
 (.seq
 (.reg [⟨(some 10), .bld [(.d (.int .u8 0)), (.d (.int .u32 0))] [], none⟩,
⟨none, .store 2 (.t 4) (.t 10), none⟩,
⟨(some 5), .mv (.k (.d (.int .i64 2))), none⟩] (fullB 3) false)
 .ret)
 (.seq
 (.reg [⟨(some 12), .mv (.t 1), none⟩,
⟨(some 13), .idxA 8 1 (.t 2) (.t 12), none⟩,
⟨(some 14), .load none (.t 13), none⟩,
⟨(some 15), .bin .add (.t 14) (.k (.d (.int .u32 1))), none⟩,
⟨(some 16), .bin .eql (.t 15) (.k (.d (.int .u32 0))), none⟩,
⟨(some 11), .mv (.t 16), none⟩] (fullB 6) false)
 (.cond (.t 11)
 (.seq
  (.reg [⟨(some 17), .bld [(.d (.int .u8 0)), (.d (.int .u32 0))] [], none⟩,
⟨none, .store 2 (.t 4) (.t 17), none⟩,
⟨(some 5), .mv (.k (.d (.int .i64 6))), none⟩] (fullB 3) false)
  .ret)
 .skip)))))
(.seq
(.reg [⟨(some 18), .mv (.t 1), none⟩,
⟨(some 19), .mv (.t 1), none⟩,
⟨(some 20), .idxA 8 1 (.t 2) (.t 19), none⟩,
⟨(some 21), .load none (.t 20), none⟩,
⟨(some 22), .bin .add (.t 21) (.k (.d (.int .u32 1))), none⟩,
⟨(some 23), .bld [(.d (.int .u8 0)), (.d (.int .u32 0))] [(0, 1, (.t 18)), (1, 1, (.t 22))], none⟩,
⟨none, .store 2 (.t 4) (.t 23), none⟩,
⟨(some 5), .mv (.k (.d (.int .i64 0))), none⟩] (fullB 8) false)
.ret)))
def rv : List RV := [.cell 4 (some 2), .tmp 5]
/-! live vector_Next: [0, 1, 2, 4, 5, 6, 11] -/
theorem c : cK Try.prog Try.f34.ntmps (Try.f34.body.getD .ret) = some s := by kernel_rfl
theorem b : Try.f34.body = some (Try.f34.body.getD .ret) := by kernel_rfl
theorem r : cRV Try.prog Try.f34.results.toList = some rv := by kernel_rfl
theorem ca : Callable Try.prog 34 = true := by kernel_rfl
theorem enter {args : List SV} {F : Hp} {k nk : Nat} {Q : SV → Hp → Prop} (hargs : SV.oks (fun n => decide (n < k)) args = true) (hF : F.ok (fun n => decide (n < k)) = true) (hN : args.length ≤ 24)
    (h : SW Try.prog 24 k s ⟨argE 0 args, F, k⟩ fun e st' => match e with | .normal => Fin k nk rv Q st' | .ret => Fin k nk rv Q st' | _ => False) : SB Try.prog 34 args F k nk Q :=
  SB.of_body Try.func34 b c r ca hargs hF hN h
end vector_Next
/-! ### tranter.vector.Put -/
namespace vector_Put
abbrev f : Nat := 35
def s : SCo := (.seq
(.reg [⟨(some 2), .box 25 (.t 0), none⟩,
⟨(some 3), .box 44 (.t 1), none⟩,
⟨(some 4), .alloc 25 [(.d (.int .u32 0)), (.d (.int .u32 0)), (.d (.int .u32 0)), (.d (.int .u32 0)), (.d (.int .u32 0)), (.d (.int .u32 0)), (.d (.int .u32 0)), (.d (.int .u32 0))], none⟩,
⟨(some 5), .mv (.k (.d (.int .i64 0))), none⟩] (fullB 4) false)
(.seq
(.seq
(.reg [⟨(some 8), .load (some 2) (.t 3), none⟩,
⟨(some 9), .call (.k (.fn (.func 65) [] [])) [(.t 8)], none⟩,
⟨(some 10), .not (.t 9), none⟩] (fullB 3) false)
(.cond (.t 10)
 (.seq
 (.reg [⟨(some 11), .bld [(.d (.int .u32 0)), (.d (.int .u32 0)), (.d (.int .u32 0)), (.d (.int .u32 0)), (.d (.int .u32 0)), (.d (.int .u32 0)), (.d (.int .u32 0)), (.d (.int .u32 0))] [], none⟩,
⟨none, .store 8 (.t 4) (.t 11), none⟩,
⟨(some 5), .mv (.k (.d (.int .i64 2))), none⟩] (fullB 3) false)
 .ret)
 .skip))
(.seq
(.seq
 (.reg [⟨(some 13), .load (some 8) (.t 2), none⟩,
⟨(some 14), .fld 0 (.t 3), none⟩,
⟨(some 15), .load none (.t 14), none⟩,
⟨(some 16), .call (.k (.fn (.func 34) [] [])) [(.t 13), (.t 15)], none⟩,
⟨(some 12), .mv (.t 16), none⟩,
⟨(some 17), .ext 0 (.t 12), none⟩,
⟨(some 18), .ext 1 (.t 12), none⟩,
⟨(some 6), .alloc 44 [(.d (.int .u8 0)), (.d (.int .u32 0))], none⟩,
⟨none, .store 2 (.t 6) (.t 17), none⟩,
⟨(some 7), .mv (.t 18), none⟩] (fullB 10) false)
 (.seq
 (.reg [⟨(some 19), .mv (.t 7), none⟩,
⟨(some 20), .bin .neq (.t 19) (.k (.d (.int .i64 0))), none⟩,
⟨(some 21), .mv (.t 20), none⟩,
⟨(some 22), .load (some 2) (.t 6), some (21, false)⟩,
⟨(some 23), .load (some 2) (.t 3), some (21, false)⟩,
⟨(some 24), .eqv true [true, true] (.t 22) (.t 23), some (21, false)⟩,
⟨(some 25), .pick (.t 21) (.k (.d (.bool true))) (.t 24), none⟩] (fullB 7) false)
 (.cond (.t 25)
 (.seq
 (.reg [⟨(some 26), .bld [(.d (.int .u32 0)), (.d (.int .u32 0)), (.d (.int .u32 0)), (.d (.int .u32 0)), (.d (.int .u32 0)), (.d (.int .u32 0)), (.d (.int .u32 0)), (.d (.int .u32 0))] [], none⟩,
⟨none, .store 8 (.t 4) (.t 26), none⟩,
⟨(some 5), .mv (.k (.d (.int .i64 9))), none⟩] (fullB 3) false)
 .ret)
 .skip)))
(.seq
 (.reg [⟨(some 27), .fld 0 (.t 3), none⟩,
⟨(some 28), .load none (.t 27), none⟩,
⟨(some 29), .fld 1 (.t 3), none⟩,
⟨(some 30), .load none (.t 29), none⟩,
⟨(some 31), .idxA 8 1 (.t 2) (.t 28), none⟩,
⟨none, .store 1 (.t 31) (.t 30), none⟩] (fullB 6) false)
 (.seq
 (.reg [⟨(some 32), .load (some 8) (.t 2), none⟩,
⟨none, .store 8 (.t 4) (.t 32), none⟩,
⟨(some 5), .mv (.k (.d (.int .i64 0))), none⟩] (fullB 3) false)
 .ret)))))
def rv : List RV := [.cell 4 (some 8), .tmp 5]
/-! live vector_Put: [0, 1, 2, 3, 4, 5, 6, 7, 10, 25] -/
theorem c : cK Try.prog Try.f35.ntmps (Try.f35.body.getD .ret) = some s := by kernel_rfl
theorem b : Try.f35.body = some (Try.f35.body.getD .ret) := by kernel_rfl
theorem r : cRV Try.prog Try.f35.results.toList = some rv := by kernel_rfl
theorem ca : Callable Try.prog 35 = true := by kernel_rfl
theorem enter {args : List SV} {F : Hp} {k nk : Nat} {Q : SV → Hp → Prop} (hargs : SV.oks (fun n => decide (n < k)) args = true) (hF : F.ok (fun n => decide (n < k)) = true) (hN : args.length ≤ 33)
    (h : SW Try.prog 33 k s ⟨argE 0 args, F, k⟩ fun e st' => match e with | .normal => Fin k nk rv Q st' | .ret => Fin k nk rv Q st' | _ => False) : SB Try.prog 35 args F k nk Q :=
  SB.of_body Try.func35 b c r ca hargs hF hN h
end vector_Put
/-! ### tranter.vector.Count -/
namespace vector_Count
abbrev f : Nat := 36
def s : SCo := (.seq
(.reg [⟨(some 1), .box 25 (.t 0), none⟩,
⟨(some 2), .mv (.k (.d (.int .u64 0))), none⟩] (fullB 2) false)
(.seq
(.reg [⟨(some 3), .mv (.k (.d (.int .u64 0))), none⟩] (fullB 1) false)
(.seq
(.seq
 (.reg [⟨(some 6), .load (some 8) (.t 1), none⟩,
⟨(some 7), .mv (.k (.d (.int .i64 0))), none⟩] (fullB 2) false)
 (.block 0
 (.loop
 (.seq
 (.reg [⟨(some 8), .bin .lss (.t 7) (.k (.d (.int .i64 8))), none⟩] (fullB 1) false)
 (.seq
  (.cond (.t 8)
  .skip
  (.exit 0))
  (.seq
  (.block 1
  (.seq
  (.reg [⟨(some 9), .index 8 1 false (.t 6) (.t 7), none⟩,
⟨(some 5), .mv (.t 9), none⟩] (fullB 2) false)
  (.reg [⟨(some 10), .mv (.t 3), none⟩,
⟨(some 11), .mv (.t 5), none⟩,
⟨(some 12), .conv .u64 (.t 11), none⟩,
⟨(some 13), .bin .add (.t 10) (.t 12), none⟩,
⟨(some 3), .mv (.t 13), none⟩] (fullB 5) false)))
  (.reg [⟨(some 14), .bin .add (.t 7) (.k (.d (.int .i64 1))), none⟩,
⟨(some 7), .mv (.t 14), none⟩] (fullB 2) false)))))))
(.seq
 (.reg [⟨(some 15), .mv (.t 3), none⟩,
⟨(some 2), .mv (.t 15), none⟩] (fullB 2) false)
 .ret))))
def rv : List RV := [.tmp 2]
/-! live vector_Count: [0, 1, 2, 3, 5, 6, 7, 8] -/
theorem c : cK Try.prog Try.f36.ntmps (Try.f36.body.getD .ret) = some s := by kernel_rfl
theorem b : Try.f36.body = some (Try.f36.body.getD .ret) := by kernel_rfl
theorem r : cRV Try.prog Try.f36.results.toList = some rv := by kernel_rfl
theorem ca : Callable Try.prog 36 = true := by kernel_rfl
theorem enter {args : List SV} {F : Hp} {k nk : Nat} {Q : SV → Hp → Prop} (hargs : SV.oks (fun n => decide (n < k)) args = true) (hF : F.ok (fun n => decide (n < k)) = true) (hN : args.length ≤ 16)
    (h : SW Try.prog 16 k s ⟨argE 0 args, F, k⟩ fun e st' => match e with | .normal => Fin k nk rv Q st' | .ret => Fin k nk rv Q st' | _ => False) : SB Try.prog 36 args F k nk Q :=
  SB.of_body Try.func36 b c r ca hargs hF hN h
end vector_Count
/-! ### tranter.vector.Lacks -/
namespace vector_Lacks
abbrev f : Nat := 37
def s : SCo := (.seq
(.reg [⟨(some 2), .box 25 (.t 0), none⟩,
⟨(some 3), .box 25 (.t 1), none⟩,
⟨(some 4), .mv (.k (.d .nils)), none⟩,
⟨(some 5), .mv (.k (.d (.int .i64 0))), none⟩] (fullB 4) false)
(.seq
(.seq
(.reg [⟨(some 10), .load (some 8) (.t 2), none⟩,
⟨(some 11), .load (some 8) (.t 3), none⟩,
⟨(some 12), .bsl 25 8 2 [(.d (.int .u32 0)), (.d (.int .u32 0)), (.d (.int .u32 0)), (.d (.int .u32 0)), (.d (.int .u32 0)), (.d (.int .u32 0)), (.d (.int .u32 0)), (.d (.int .u32 0)), (.d (.int .u32 0)), (.d (.int .u32 0)), (.d (.int .u32 0)), (.d (.int .u32 0)), (.d (.int .u32 0)), (.d (.int .u32 0)), (.d (.int .u32 0)), (.d (.int .u32 0))] [(0, 8, (.t 10)), (8, 8, (.t 11))], none⟩,
⟨(some 13), .call (.k (.fn (.func 25) [] [])) [(.t 12)], none⟩,
⟨(some 14), .call (.k (.fn (.func 36) [] [])) [(.t 13)], none⟩,
⟨(some 15), .load (some 8) (.t 2), none⟩,
⟨(some 16), .call (.k (.fn (.func 36) [] [])) [(.t 15)], none⟩,
⟨(some 17), .bin .sub (.t 14) (.t 16), none⟩,
⟨(some 18), .bin .gtr (.t 17) (.k (.d (.int .u64 65536))), none⟩] [0,
0,
3,
7,
15,
0,
63,
127,
255] true)
(.cond (.t 18)
 (.seq
 (.reg [⟨(some 4), .mv (.k (.d .nils)), none⟩,
⟨(some 5), .mv (.k (.d (.int .i64 3))), none⟩] (fullB 2) false)
 .ret)
 .skip))
(.seq
(.reg [⟨(some 6), .mv (.k (.d .nils)), none⟩] (fullB 1) false)
(.seq
 (.seq
 (.reg [⟨(some 19), .mv (.k (.d (.int .i64 0))), none⟩] (fullB 1) false)
 (.block 0
 (.loop
 (.seq
  (.reg [⟨(some 20), .bin .lss (.t 19) (.k (.d (.int .i64 8))), none⟩] (fullB 1) false)
  (.seq
  (.cond (.t 20)
  .skip
  (.exit 0))
  (.seq
  (.block 1
  (.seq
   (.reg [⟨(some 21), .mv (.t 19), none⟩,
⟨(some 7), .mv (.t 21), none⟩] (fullB 2) false)
   (.seq
   (.seq
   (.reg [⟨(some 22), .mv (.t 7), none⟩,
⟨(some 23), .idxA 8 1 (.t 3) (.t 22), none⟩,
⟨(some 24), .load none (.t 23), none⟩,
⟨(some 25), .mv (.t 7), none⟩,
⟨(some 26), .idxA 8 1 (.t 2) (.t 25), none⟩,
⟨(some 27), .load none (.t 26), none⟩,
⟨(some 28), .bin .leq (.t 24) (.t 27), none⟩] [0,
1,
3,
0,
8,
24,
63] true)
   (.cond (.t 28)
   (.exit 1)
   .skip))
   (.seq
   (.reg [⟨(some 30), .mv (.t 7), none⟩,
⟨(some 31), .conv .u8 (.t 30), none⟩,
⟨(some 32), .mv (.t 7), none⟩,
⟨(some 33), .idxA 8 1 (.t 2) (.t 32), none⟩,
⟨(some 34), .load none (.t 33), none⟩,
⟨(some 35), .bin .add (.t 34) (.k (.d (.int .u32 1))), none⟩,
⟨(some 36), .mv (.t 7), none⟩,
⟨(some 37), .idxA 8 1 (.t 3) (.t 36), none⟩,
⟨(some 38), .load none (.t 37), none⟩,
⟨(some 39), .call (.k (.fn (.func 66) [] [])) [(.t 31), (.t 35), (.t 38)], none⟩,
⟨(some 29), .mv (.t 39), none⟩,
⟨(some 40), .ext 0 (.t 29), none⟩,
⟨(some 41), .ext 1 (.t 29), none⟩,
⟨(some 8), .mv (.t 40), none⟩,
⟨(some 9), .mv (.t 41), none⟩] [0,
1,
0,
4,
12,
28,
0,
64,
192,
511,
1023,
2047,
2047,
4095,
16383] true)
   (.seq
   (.seq
    (.reg [⟨(some 42), .mv (.t 9), none⟩,
⟨(some 43), .bin .neq (.t 42) (.k (.d (.int .i64 0))), none⟩] (fullB 2) false)
    (.cond (.t 43)
    (.seq
    (.reg [⟨(some 44), .mv (.t 9), none⟩,
⟨(some 4), .mv (.k (.d .nils)), none⟩,
⟨(some 5), .mv (.t 44), none⟩] (fullB 3) false)
    .ret)
    .skip))
   (.reg [⟨(some 45), .mv (.t 6), none⟩,
⟨(some 46), .mv (.t 8), none⟩,
⟨(some 47), .app 44 2 8 (.t 45) (.t 46), none⟩,
⟨(some 6), .mv (.t 47), none⟩] (fullB 4) false))))))
  (.reg [⟨(some 48), .bin .add (.t 19) (.k (.d (.int .i64 1))), none⟩,
⟨(some 19), .mv (.t 48), none⟩] (fullB 2) false)))))))
 (.seq
 (.reg [⟨(some 49), .mv (.t 6), none⟩,
⟨(some 4), .mv (.t 49), none⟩,
⟨(some 5), .mv (.k (.d (.int .i64 0))), none⟩] (fullB 3) false)
 .ret)))))
def rv : List RV := [.tmp 4, .tmp 5]
/-! live vector_Lacks: [0, 1, 2, 3, 4, 5, 6, 7, 8, 9, 18, 19, 20, 28, 43] -/
theorem c : cK Try.prog Try.f37.ntmps (Try.f37.body.getD .ret) = some s := by kernel_rfl
theorem b : Try.f37.body = some (Try.f37.body.getD .ret) := by kernel_rfl
theorem r : cRV Try.prog Try.f37.results.toList = some rv := by kernel_rfl
theorem ca : Callable Try.prog 37 = true := by kernel_rfl
theorem enter {args : List SV} {F : Hp} {k nk : Nat} {Q : SV → Hp → Prop} (hargs : SV.oks (fun n => decide (n < k)) args = true) (hF : F.ok (fun n => decide (n < k)) = true) (hN : args.length ≤ 50)
    (h : SW Try.prog 50 k s ⟨argE 0 args, F, k⟩ fun e st' => match e with | .normal => Fin k nk rv Q st' | .ret => Fin k nk rv Q st' | _ => False) : SB Try.prog 37 args F k nk Q :=
  SB.of_body Try.func37 b c r ca hargs hF hN h
end vector_Lacks
/-! ### tranter.tranterref04.Next -/
namespace ref04_Next
abbrev f : Nat := 38
def s : SCo := (.seq
(.reg [⟨(some 2), .box 25 (.t 0), none⟩,
⟨(some 4), .alloc 44 [(.d (.int .u8 0)), (.d (.int .u32 0))], none⟩,
⟨(some 5), .mv (.k (.d (.int .i64 0))), none⟩] (fullB 3) false)
(.seq
(.seq
(.reg [⟨(some 6), .mv (.t 1), none⟩,
⟨(some 7), .bin .gtr (.t 6) (.k (.d (.int .u8 7))), none⟩] (fullB 2) false)
(.cond (.t 7)
 (.seq
 (.reg [⟨(some 8), .bld [(.d (.int .u8 0)), (.d (.int .u32 0))] [], none⟩,
⟨none, .store 2 (.t 4) (.t 8), none⟩,
⟨(some 5), .mv (.k (.d (.int .i64 2))), none⟩] (fullB 3) false)
 .ret)
 .skip))
(.seq
(.seq
 (.reg [⟨(some 9), .mv (.t 1), none⟩,
⟨(some 10), .idxA 8 1 (.t 2) (.t 9), none⟩,
⟨(some 11), .load none (.t 10), none⟩,
⟨(some 12), .bin .eql (.t 11) (.k (.d (.int .u32 4294967295))), none⟩] (fullB 4) false)
 (.cond (.t 12)
 (.seq
 (.reg [⟨(some 13), .bld [(.d (.int .u8 0)), (.d (.int .u32 0))] [], none⟩,
⟨none, .store 2 (.t 4) (.t 13), none⟩,
⟨(some 5), .mv (.k (.d (.int .i64 6))), none⟩] (fullB 3) false)
 .ret)
 .skip))
(.seq
 (.reg [⟨(some 14), .mv (.t 1), none⟩,
⟨(some 15), .mv (.t 1), none⟩,
⟨(some 16), .idxA 8 1 (.t 2) (.t 15), none⟩,
⟨(some 17), .load none (.t 16), none⟩,
⟨(some 18), .bin .add (.t 17) (.k (.d (.int .u32 1))), none⟩,
⟨(some 19), .bld [(.d (.int .u8 0)), (.d (.int .u32 0))] [(0, 1, (.t 14)), (1, 1, (.t 18))], none⟩,
⟨none, .store 2 (.t 4) (.t 19), none⟩,
⟨(some 5), .mv (.k (.d (.int .i64 0))), none⟩] (fullB 8) false)
 .ret))))
def rv : List RV := [.cell 4 (some 2), .tmp 5]
/-! live ref04_Next: [0, 1, 2, 4, 5, 7, 12] -/
theorem c : cK Try.prog Try.f38.ntmps (Try.f38.body.getD .ret) = some s := by kernel_rfl
theorem b : Try.f38.body = some (Try.f38.body.getD .ret) := by kernel_rfl
theorem r : cRV Try.prog Try.f38.results.toList = some rv := by kernel_rfl
theorem ca : Callable Try.prog 38 = true := by kernel_rfl
theorem enter {args : List SV} {F : Hp} {k nk : Nat} {Q : SV → Hp → Prop} (hargs : SV.oks (fun n => decide (n < k)) args = true) (hF : F.ok (fun n => decide (n < k)) = true) (hN : args.length ≤ 20)
    (h : SW Try.prog 20 k s ⟨argE 0 args, F, k⟩ fun e st' => match e with | .normal => Fin k nk rv Q st' | .ret => Fin k nk rv Q st' | _ => False) : SB Try.prog 38 args F k nk Q :=
  SB.of_body Try.func38 b c r ca hargs hF hN h
end ref04_Next
/-! ### tranter.tranterref04.Put -/
namespace ref04_Put
abbrev f : Nat := 39
def s : SCo := (.seq
(.reg [⟨(some 2), .box 25 (.t 0), none⟩,
⟨(some 3), .box 44 (.t 1), none⟩,
⟨(some 4), .alloc 25 [(.d (.int .u32 0)), (.d (.int .u32 0)), (.d (.int .u32 0)), (.d (.int .u32 0)), (.d (.int .u32 0)), (.d (.int .u32 0)), (.d (.int .u32 0)), (.d (.int .u32 0))], none⟩,
⟨(some 5), .mv (.k (.d (.int .i64 0))), none⟩] (fullB 4) false)
(.seq
(.seq
(.reg [⟨(some 6), .load (some 2) (.t 3), none⟩,
⟨(some 7), .call (.k (.fn (.func 57) [] [])) [(.t 6)], none⟩,
⟨(some 8), .not (.t 7), none⟩] (fullB 3) false)
(.cond (.t 8)
 (.seq
 (.reg [⟨(some 9), .bld [(.d (.int .u32 0)), (.d (.int .u32 0)), (.d (.int .u32 0)), (.d (.int .u32 0)), (.d (.int .u32 0)), (.d (.int .u32 0)), (.d (.int .u32 0)), (.d (.int .u32 0))] [], none⟩,
⟨none, .store 8 (.t 4) (.t 9), none⟩,
⟨(some 5), .mv (.k (.d (.int .i64 2))), none⟩] (fullB 3) false)
 .ret)
 .skip))
(.seq
(.seq
 (.reg [⟨(some 10), .fld 1 (.t 3), none⟩,
⟨(some 11), .load none (.t 10), none⟩,
⟨(some 12), .conv .i64 (.t 11), none⟩,
⟨(some 13), .fld 0 (.t 3), none⟩,
⟨(some 14), .load none (.t 13), none⟩,
⟨(some 15), .idxA 8 1 (.t 2) (.t 14), none⟩,
⟨(some 16), .load none (.t 15), none⟩,
⟨(some 17), .conv .i64 (.t 16), none⟩,
⟨(some 18), .bin .add (.t 17) (.k (.d (.int .i64 1))), none⟩,
⟨(some 19), .bin .neq (.t 12) (.t 18), none⟩] [0,
1,
3,
0,
8,
24,
56,
120,
248,
511] true)
 (.cond (.t 19)
 (.seq
 (.reg [⟨(some 20), .bld [(.d (.int .u32 0)), (.d (.int .u32 0)), (.d (.int .u32 0)), (.d (.int .u32 0)), (.d (.int .u32 0)), (.d (.int .u32 0)), (.d (.int .u32 0)), (.d (.int .u32 0))] [], none⟩,
⟨none, .store 8 (.t 4) (.t 20), none⟩,
⟨(some 5), .mv (.k (.d (.int .i64 9))), none⟩] (fullB 3) false)
 .ret)
 .skip))
(.seq
 (.reg [⟨(some 21), .fld 0 (.t 3), none⟩,
⟨(some 22), .load none (.t 21), none⟩,
⟨(some 23), .fld 1 (.t 3), none⟩,
⟨(some 24), .load none (.t 23), none⟩,
⟨(some 25), .idxA 8 1 (.t 2) (.t 22), none⟩,
⟨none, .store 1 (.t 25) (.t 24), none⟩] (fullB 6) false)
 (.seq
 (.reg [⟨(some 26), .load (some 8) (.t 2), none⟩,
⟨none, .store 8 (.t 4) (.t 26), none⟩,
⟨(some 5), .mv (.k (.d (.int .i64 0))), none⟩] (fullB 3) false)
 .ret)))))
def rv : List RV := [.cell 4 (some 8), .tmp 5]
/-! live ref04_Put: [0, 1, 2, 3, 4, 5, 8, 19] -/
theorem c : cK Try.prog Try.f39.ntmps (Try.f39.body.getD .ret) = some s := by kernel_rfl
theorem b : Try.f39.body = some (Try.f39.body.getD .ret) := by kernel_rfl
theorem r : cRV Try.prog Try.f39.results.toList = some rv := by kernel_rfl
theorem ca : Callable Try.prog 39 = true := by kernel_rfl
theorem enter {args : List SV} {F : Hp} {k nk : Nat} {Q : SV → Hp → Prop} (hargs : SV.oks (fun n => decide (n < k)) args = true) (hF : F.ok (fun n => decide (n < k)) = true) (hN : args.length ≤ 27)
    (h : SW Try.prog 27 k s ⟨argE 0 args, F, k⟩ fun e st' => match e with | .normal => Fin k nk rv Q st' | .ret => Fin k nk rv Q st' | _ => False) : SB Try.prog 39 args F k nk Q :=
  SB.of_body Try.func39 b c r ca hargs hF hN h
end ref04_Put
/-! ### tranter.vector.Beside -/
namespace vector_Beside
abbrev f : Nat := 40
def s : SCo := (.seq
(.reg [⟨(some 2), .box 25 (.t 0), none⟩,
⟨(some 3), .box 25 (.t 1), none⟩,
⟨(some 4), .mv (.k (.d (.bool false))), none⟩] (fullB 3) false)
(.seq
(.reg [⟨(some 5), .load (some 8) (.t 2), none⟩,
⟨(some 6), .load (some 8) (.t 3), none⟩,
⟨(some 7), .call (.k (.fn (.func 32) [] [])) [(.t 5), (.t 6)], none⟩,
⟨(some 8), .not (.t 7), none⟩,
⟨(some 9), .mv (.t 8), none⟩,
⟨(some 10), .load (some 8) (.t 3), some (9, true)⟩,
⟨(some 11), .load (some 8) (.t 2), some (9, true)⟩,
⟨(some 12), .call (.k (.fn (.func 32) [] [])) [(.t 10), (.t 11)], some (9, true)⟩,
⟨(some 13), .not (.t 12), some (9, true)⟩,
⟨(some 14), .pick (.t 9) (.t 13) (.k (.d (.bool false))), none⟩,
⟨(some 4), .mv (.t 14), none⟩] (fullB 11) false)
.ret))
def rv : List RV := [.tmp 4]
/-! live vector_Beside: [0, 1, 2, 3, 4] -/
theorem c : cK Try.prog Try.f40.ntmps (Try.f40.body.getD .ret) = some s := by kernel_rfl
theorem b : Try.f40.body = some (Try.f40.body.getD .ret) := by kernel_rfl
theorem r : cRV Try.prog Try.f40.results.toList = some rv := by kernel_rfl
theorem ca : Callable Try.prog 40 = true := by kernel_rfl
theorem enter {args : List SV} {F : Hp} {k nk : Nat} {Q : SV → Hp → Prop} (hargs : SV.oks (fun n => decide (n < k)) args = true) (hF : F.ok (fun n => decide (n < k)) = true) (hN : args.length ≤ 15)
    (h : SW Try.prog 15 k s ⟨argE 0 args, F, k⟩ fun e st' => match e with | .normal => Fin k nk rv Q st' | .ret => Fin k nk rv Q st' | _ => False) : SB Try.prog 40 args F k nk Q :=
  SB.of_body Try.func40 b c r ca hargs hF hN h
end vector_Beside
/-! ### tranter.tranterref04.Count -/
namespace ref04_Count
abbrev f : Nat := 41
def s : SCo := (.seq
(.reg [⟨(some 1), .box 25 (.t 0), none⟩,
⟨(some 2), .mv (.k (.d (.int .u64 0))), none⟩] (fullB 2) false)
(.seq
(.reg [⟨(some 3), .mv (.k (.d (.int .u64 0))), none⟩] (fullB 1) false)
(.seq
(.seq
 (.reg [⟨(some 4), .mv (.k (.d (.int .i64 0))), none⟩] (fullB 1) false)
 (.block 0
 (.loop
 (.seq
 (.seq
  (.reg [⟨(some 5), .mv (.t 4), none⟩,
⟨(some 6), .bin .lss (.t 5) (.k (.d (.int .i64 8))), none⟩] (fullB 2) false)
  (.cond (.t 6)
  .skip
  (.exit 0)))
 (.seq
  (.block 1
  (.reg [⟨(some 9), .mv (.t 3), none⟩,
⟨(some 10), .mv (.t 4), none⟩,
⟨(some 11), .idxA 8 1 (.t 1) (.t 10), none⟩,
⟨(some 12), .load none (.t 11), none⟩,
⟨(some 13), .conv .u64 (.t 12), none⟩,
⟨(some 14), .bin .add (.t 9) (.t 13), none⟩,
⟨(some 3), .mv (.t 14), none⟩] (fullB 7) false))
  (.reg [⟨(some 7), .mv (.t 4), none⟩,
⟨(some 8), .bin .add (.t 7) (.k (.d (.int .i64 1))), none⟩,
⟨(some 4), .mv (.t 8), none⟩] (fullB 3) false))))))
(.seq
 (.reg [⟨(some 15), .mv (.t 3), none⟩,
⟨(some 2), .mv (.t 15), none⟩] (fullB 2) false)
 .ret))))
def rv : List RV := [.tmp 2]
/-! live ref04_Count: [0, 1, 2, 3, 4, 6] -/
theorem c : cK Try.prog Try.f41.ntmps (Try.f41.body.getD .ret) = some s := by kernel_rfl
theorem b : Try.f41.body = some (Try.f41.body.getD .ret) := by kernel_rfl
theorem r : cRV Try.prog Try.f41.results.toList = some rv := by kernel_rfl
theorem ca : Callable Try.prog 41 = true := by kernel_rfl
theorem enter {args : List SV} {F : Hp} {k nk : Nat} {Q : SV → Hp → Prop} (hargs : SV.oks (fun n => decide (n < k)) args = true) (hF : F.ok (fun n => decide (n < k)) = true) (hN : args.length ≤ 16)
    (h : SW Try.prog 16 k s ⟨argE 0 args, F, k⟩ fun e st' => match e with | .normal => Fin k nk rv Q st' | .ret => Fin k nk rv Q st' | _ => False) : SB Try.prog 41 args F k nk Q :=
  SB.of_body Try.func41 b c r ca hargs hF hN h
end ref04_Count
/-! ### tranter.tranterref04.Lacks -/
namespace ref04_Lacks
abbrev f : Nat := 42
def s : SCo := (.seq
(.reg [⟨(some 2), .box 25 (.t 0), none⟩,
⟨(some 3), .box 25 (.t 1), none⟩,
⟨(some 4), .mv (.k (.d .nils)), none⟩,
⟨(some 5), .mv (.k (.d (.int .i64 0))), none⟩] (fullB 4) false)
(.seq
(.reg [⟨(some 6), .mv (.k (.d (.int .i64 0))), none⟩] (fullB 1) false)
(.seq
(.seq
 (.reg [⟨(some 7), .mv (.k (.d (.int .i64 0))), none⟩] (fullB 1) false)
 (.block 0
 (.loop
 (.seq
 (.seq
  (.reg [⟨(some 11), .mv (.t 7), none⟩,
⟨(some 12), .bin .lss (.t 11) (.k (.d (.int .i64 8))), none⟩] (fullB 2) false)
  (.cond (.t 12)
  .skip
  (.exit 0)))
 (.seq
  (.block 1
  (.reg [⟨(some 15), .mv (.t 6), none⟩,
⟨(some 16), .mv (.t 7), none⟩,
⟨(some 17), .idxA 8 1 (.t 3) (.t 16), none⟩,
⟨(some 18), .load none (.t 17), none⟩,
⟨(some 19), .conv .i64 (.t 18), none⟩,
⟨(some 20), .mv (.t 7), none⟩,
⟨(some 21), .idxA 8 1 (.t 2) (.t 20), none⟩,
⟨(some 22), .load none (.t 21), none⟩,
⟨(some 23), .conv .i64 (.t 22), none⟩,
⟨(some 24), .bin .sub (.t 19) (.t 23), none⟩,
⟨(some 25), .mx (.t 24) (.k (.d (.int .i64 0))), none⟩,
⟨(some 26), .bin .add (.t 15) (.t 25), none⟩,
⟨(some 6), .mv (.t 26), none⟩] [0,
0,
2,
6,
14,
0,
32,
96,
224,
510,
1022,
2047,
4095] true))
  (.reg [⟨(some 13), .mv (.t 7), none⟩,
⟨(some 14), .bin .add (.t 13) (.k (.d (.int .i64 1))), none⟩,
⟨(some 7), .mv (.t 14), none⟩] (fullB 3) false))))))
(.seq
 (.seq
 (.reg [⟨(some 27), .mv (.t 6), none⟩,
⟨(some 28), .bin .gtr (.t 27) (.k (.d (.int .i64 65536))), none⟩] (fullB 2) false)
 (.cond (.t 28)
 (.seq
 (.reg [⟨(some 4), .mv (.k (.d .nils)), none⟩,
⟨(some 5), .mv (.k (.d (.int .i64 3))), none⟩] (fullB 2) false)
 .ret)
 .skip))
 (.seq
 (.reg [⟨(some 8), .mv (.k (.d .nils)), none⟩] (fullB 1) false)
 (.seq
 (.seq
 (.reg [⟨(some 9), .mv (.k (.d (.int .i64 0))), none⟩] (fullB 1) false)
 (.block 2
  (.loop
  (.seq
  (.seq
  (.reg [⟨(some 29), .mv (.t 9), none⟩,
⟨(some 30), .bin .lss (.t 29) (.k (.d (.int .i64 8))), none⟩] (fullB 2) false)
  (.cond (.t 30)
   .skip
   (.exit 2)))
  (.seq
  (.block 3
   (.seq
   (.reg [⟨(some 33), .mv (.t 9), none⟩,
⟨(some 34), .idxA 8 1 (.t 2) (.t 33), none⟩,
⟨(some 35), .load none (.t 34), none⟩,
⟨(some 36), .conv .i64 (.t 35), none⟩,
⟨(some 37), .bin .add (.t 36) (.k (.d (.int .i64 1))), none⟩,
⟨(some 10), .mv (.t 37), none⟩] (fullB 6) false)
   (.block 4
   (.loop
   (.seq
    (.seq
    (.reg [⟨(some 38), .mv (.t 10), none⟩,
⟨(some 39), .mv (.t 9), none⟩,
⟨(some 40), .idxA 8 1 (.t 3) (.t 39), none⟩,
⟨(some 41), .load none (.t 40), none⟩,
⟨(some 42), .conv .i64 (.t 41), none⟩,
⟨(some 43), .bin .leq (.t 38) (.t 42), none⟩] (fullB 6) false)
    (.cond (.t 43)
    .skip
    (.exit 4)))
    (.seq
    (.block 5
    (.reg [⟨(some 46), .mv (.t 8), none⟩,
⟨(some 47), .mv (.t 9), none⟩,
⟨(some 48), .conv .u8 (.t 47), none⟩,
⟨(some 49), .mv (.t 10), none⟩,
⟨(some 50), .conv .u32 (.t 49), none⟩,
⟨(some 51), .bld [(.d (.int .u8 0)), (.d (.int .u32 0))] [(0, 1, (.t 48)), (1, 1, (.t 50))], none⟩,
⟨(some 52), .bsl 44 2 1 [(.d (.int .u8 0)), (.d (.int .u32 0))] [(0, 2, (.t 51))], none⟩,
⟨(some 53), .app 44 2 8 (.t 46) (.t 52), none⟩,
⟨(some 8), .mv (.t 53), none⟩] (fullB 9) false))
    (.reg [⟨(some 44), .mv (.t 10), none⟩,
⟨(some 45), .bin .add (.t 44) (.k (.d (.int .i64 1))), none⟩,
⟨(some 10), .mv (.t 45), none⟩] (fullB 3) false)))))))
  (.reg [⟨(some 31), .mv (.t 9), none⟩,
⟨(some 32), .bin .add (.t 31) (.k (.d (.int .i64 1))), none⟩,
⟨(some 9), .mv (.t 32), none⟩] (fullB 3) false))))))
 (.seq
 (.reg [⟨(some 54), .mv (.t 8), none⟩,
⟨(some 4), .mv (.t 54), none⟩,
⟨(some 5), .mv (.k (.d (.int .i64 0))), none⟩] (fullB 3) false)
 .ret)))))))
def rv : List RV := [.tmp 4, .tmp 5]
/-! live ref04_Lacks: [0, 1, 2, 3, 4, 5, 6, 7, 8, 9, 10, 12, 28, 30, 43] -/
theorem c : cK Try.prog Try.f42.ntmps (Try.f42.body.getD .ret) = some s := by kernel_rfl
theorem b : Try.f42.body = some (Try.f42.body.getD .ret) := by kernel_rfl
theorem r : cRV Try.prog Try.f42.results.toList = some rv := by kernel_rfl
theorem ca : Callable Try.prog 42 = true := by kernel_rfl
theorem enter {args : List SV} {F : Hp} {k nk : Nat} {Q : SV → Hp → Prop} (hargs : SV.oks (fun n => decide (n < k)) args = true) (hF : F.ok (fun n => decide (n < k)) = true) (hN : args.length ≤ 55)
    (h : SW Try.prog 55 k s ⟨argE 0 args, F, k⟩ fun e st' => match e with | .normal => Fin k nk rv Q st' | .ret => Fin k nk rv Q st' | _ => False) : SB Try.prog 42 args F k nk Q :=
  SB.of_body Try.func42 b c r ca hargs hF hN h
end ref04_Lacks
/-! ### tranter.vector.Dots -/
namespace vector_Dots
abbrev f : Nat := 43
def s : SCo := (.seq
(.reg [⟨(some 1), .box 25 (.t 0), none⟩,
⟨(some 2), .mv (.k (.d .nils)), none⟩,
⟨(some 3), .mv (.k (.d (.int .i64 0))), none⟩] (fullB 3) false)
(.seq
(.reg [⟨(some 4), .bld [(.d (.int .u32 0)), (.d (.int .u32 0)), (.d (.int .u32 0)), (.d (.int .u32 0)), (.d (.int .u32 0)), (.d (.int .u32 0)), (.d (.int .u32 0)), (.d (.int .u32 0))] [], none⟩,
⟨(some 5), .load (some 8) (.t 1), none⟩,
⟨(some 6), .call (.k (.fn (.func 37) [] [])) [(.t 4), (.t 5)], none⟩,
⟨(some 7), .ext 0 (.t 6), none⟩,
⟨(some 8), .ext 1 (.t 6), none⟩,
⟨(some 2), .mv (.t 7), none⟩,
⟨(some 3), .mv (.t 8), none⟩] (fullB 7) false)
.ret))
def rv : List RV := [.tmp 2, .tmp 3]
/-! live vector_Dots: [0, 1, 2, 3] -/
theorem c : cK Try.prog Try.f43.ntmps (Try.f43.body.getD .ret) = some s := by kernel_rfl
theorem b : Try.f43.body = some (Try.f43.body.getD .ret) := by kernel_rfl
theorem r : cRV Try.prog Try.f43.results.toList = some rv := by kernel_rfl
theorem ca : Callable Try.prog 43 = true := by kernel_rfl
theorem enter {args : List SV} {F : Hp} {k nk : Nat} {Q : SV → Hp → Prop} (hargs : SV.oks (fun n => decide (n < k)) args = true) (hF : F.ok (fun n => decide (n < k)) = true) (hN : args.length ≤ 9)
    (h : SW Try.prog 9 k s ⟨argE 0 args, F, k⟩ fun e st' => match e with | .normal => Fin k nk rv Q st' | .ret => Fin k nk rv Q st' | _ => False) : SB Try.prog 43 args F k nk Q :=
  SB.of_body Try.func43 b c r ca hargs hF hN h
end vector_Dots
/-! ### tranter.tranterref03.Same -/
namespace ref03_Same
abbrev f : Nat := 44
def s : SCo := (.seq
(.reg [⟨(some 4), .mv (.k (.d (.bool false))), none⟩] (fullB 1) false)
(.seq
(.seq
(.reg [⟨(some 6), .mv (.t 0), none⟩,
⟨(some 7), .len (.t 6), none⟩,
⟨(some 8), .mv (.t 1), none⟩,
⟨(some 9), .len (.t 8), none⟩,
⟨(some 10), .bin .neq (.t 7) (.t 9), none⟩] (fullB 5) false)
(.cond (.t 10)
 (.seq
 (.reg [⟨(some 4), .mv (.k (.d (.bool false))), none⟩] (fullB 1) false)
 .ret)
 .skip))
(.seq
(.seq
 (.reg [⟨(some 5), .mv (.k (.d (.int .i64 0))), none⟩] (fullB 1) false)
 (.block 0
 (.loop
 (.seq
 (.seq
  (.reg [⟨(some 11), .mv (.t 5), none⟩,
⟨(some 12), .mv (.t 0), none⟩,
⟨(some 13), .len (.t 12), none⟩,
⟨(some 14), .bin .lss (.t 11) (.t 13), none⟩] (fullB 4) false)
  (.cond (.t 14)
  .skip
  (.exit 0)))
 (.seq
  (.block 1
  (.seq
  (.reg [⟨(some 17), .mv (.t 0), none⟩,
⟨(some 18), .mv (.t 5), none⟩,
⟨(some 19), .idxS 2 (.t 17) (.t 18), none⟩,
⟨(some 20), .load (some 2) (.t 19), none⟩,
⟨(some 21), .mv (.t 1), none⟩,
⟨(some 22), .mv (.t 5), none⟩,
⟨(some 23), .idxS 2 (.t 21) (.t 22), none⟩,
⟨(some 24), .load (some 2) (.t 23), none⟩,
⟨(some 25), .eqv true [true, true] (.t 20) (.t 24), none⟩] [0,
0,
3,
7,
0,
0,
48,
112,
255] true)
  (.cond (.t 25)
  (.seq
   (.reg [⟨(some 4), .mv (.k (.d (.bool false))), none⟩] (fullB 1) false)
   .ret)
  .skip)))
  (.reg [⟨(some 15), .mv (.t 5), none⟩,
⟨(some 16), .bin .add (.t 15) (.k (.d (.int .i64 1))), none⟩,
⟨(some 5), .mv (.t 16), none⟩] (fullB 3) false))))))
(.seq
 (.reg [⟨(some 4), .mv (.k (.d (.bool true))), none⟩] (fullB 1) false)
 .ret))))
def rv : List RV := [.tmp 4]
/-! live ref03_Same: [0, 1, 4, 5, 10, 14, 25] -/
theorem c : cK Try.prog Try.f44.ntmps (Try.f44.body.getD .ret) = some s := by kernel_rfl
theorem b : Try.f44.body = some (Try.f44.body.getD .ret) := by kernel_rfl
theorem r : cRV Try.prog Try.f44.results.toList = some rv := by kernel_rfl
theorem ca : Callable Try.prog 44 = true := by kernel_rfl
theorem enter {args : List SV} {F : Hp} {k nk : Nat} {Q : SV → Hp → Prop} (hargs : SV.oks (fun n => decide (n < k)) args = true) (hF : F.ok (fun n => decide (n < k)) = true) (hN : args.length ≤ 26)
    (h : SW Try.prog 26 k s ⟨argE 0 args, F, k⟩ fun e st' => match e with | .normal => Fin k nk rv Q st' | .ret => Fin k nk rv Q st' | _ => False) : SB Try.prog 44 args F k nk Q :=
  SB.of_body Try.func44 b c r ca hargs hF hN h
end ref03_Same
/-! ### (tranter.stable.Tracker).Copy -/
namespace stable_Tracker_Copy
abbrev f : Nat := 45
def s : SCo := (.seq
(.reg [⟨(some 2), .mv (.k (.d .nilp)), none⟩] (fullB 1) false)
(.seq
(.seq
(.reg [⟨(some 6), .mv (.t 0), none⟩,
⟨(some 7), .call (.k (.fn (.func 52) [] [])) [(.t 6)], none⟩] (fullB 2) false)
(.cond (.t 7)
 (.seq
 (.reg [⟨(some 2), .mv (.k (.d .nilp)), none⟩] (fullB 1) false)
 .ret)
 .skip))
(.seq
(.reg [⟨(some 8), .mv (.t 0), none⟩,
⟨(some 9), .nilc (.t 8), none⟩,
⟨(some 10), .load (some 82) (.t 9), none⟩,
⟨(some 3), .alloc 93 [(.d (.int .i64 0)), (.d (.int .u8 0)), (.d (.int .u32 0)), (.d (.int .u32 0)), (.d (.int .u32 0)), (.d (.int .u32 0)), (.d (.int .u32 0)), (.d (.int .u32 0)), (.d (.int .u32 0)), (.d (.int .u32 0)), (.d (.int .u32 0)), (.d (.int .u32 0)), (.d (.int .u32 0)), (.d (.int .u32 0)), (.d (.int .u32 0)), (.d (.int .u32 0)), (.d (.int .u32 0)), (.d (.int .u32 0)), (.d (.int .u32 0)), (.d (.int .u32 0)), (.d (.int .u32 0)), (.d (.int .u32 0)), (.d (.int .u32 0)), (.d (.int .u32 0)), (.d (.int .u32 0)), (.d (.int .u32 0)), (.d (.int .u32 0)), (.d (.int .u32 0)), (.d (.int .u32 0)), (.d (.int .u32 0)), (.d (.int .u32 0)), (.d (.int .u32 0)), (.d (.int .u32 0)), (.d (.int .u32 0)), (.d (.int .u32 0)), (.d (.int .u32 0)), (.d (.int .u32 0)), (.d (.int .u32 0)), (.d (.int .u32 0)), (.d (.int .u32 0)), (.d (.int .u32 0)), (.d (.int .u32 0)), (.d (.int .u32 0)), (.d (.int .u32 0)), (.d (.int .u32 0)), (.d (.int .u32 0)), (.d (.int .u32 0)), (.d (.int .u32 0)), (.d (.int .u32 0)), (.d (.int .u32 0)), (.d (.int .u32 0)), (.d (.int .u32 0)), (.d (.int .u32 0)), (.d (.int .u32 0)), (.d (.int .u32 0)), (.d (.int .u32 0)), (.d (.int .u32 0)), (.d (.int .u32 0)), (.d (.int .u32 0)), (.d (.int .u32 0)), (.d (.int .u32 0)), (.d (.int .u32 0)), (.d (.int .u32 0)), (.d (.int .u32 0)), (.d (.int .u32 0)), (.d (.int .u32 0)), (.d (.int .u32 0)), (.d (.int .u32 0)), (.d (.int .u32 0)), (.d (.int .u32 0)), (.d (.int .u32 0)), (.d (.int .u32 0)), (.d (.int .u32 0)), (.d (.int .u32 0)), (.d .nilm), (.d .nilm), (.d .nilm), (.d .nilm), (.d .nilm), (.d .nilm), (.d .nilm), (.d .nilm)], none⟩,
⟨none, .store 82 (.t 3) (.t 10), none⟩] (fullB 5) false)
(.seq
 (.seq
 (.reg [⟨(some 11), .mv (.t 0), none⟩,
⟨(some 12), .nilc (.t 11), none⟩,
⟨(some 13), .fld 74 (.t 12), none⟩,
⟨(some 14), .load (some 8) (.t 13), none⟩,
⟨(some 15), .mv (.k (.d (.int .i64 0))), none⟩] (fullB 5) false)
 (.block 0
 (.loop
 (.seq
  (.reg [⟨(some 16), .bin .lss (.t 15) (.k (.d (.int .i64 8))), none⟩] (fullB 1) false)
  (.seq
  (.cond (.t 16)
  .skip
  (.exit 0))
  (.seq
  (.block 1
  (.seq
   (.reg [⟨(some 17), .mv (.t 15), none⟩,
⟨(some 18), .index 8 1 false (.t 14) (.t 15), none⟩,
⟨(some 4), .mv (.t 17), none⟩,
⟨(some 5), .mv (.t 18), none⟩] (fullB 4) false)
   (.reg [⟨(some 19), .mv (.t 4), none⟩,
⟨(some 20), .mv (.t 5), none⟩,
⟨(some 21), .call (.k (.fn (.func 67) [] [])) [(.t 20)], none⟩,
⟨(some 22), .fld 74 (.t 3), none⟩,
⟨(some 23), .idxA 8 1 (.t 22) (.t 19), none⟩,
⟨none, .store 1 (.t 23) (.t 21), none⟩] (fullB 6) false)))
  (.reg [⟨(some 24), .bin .add (.t 15) (.k (.d (.int .i64 1))), none⟩,
⟨(some 15), .mv (.t 24), none⟩] (fullB 2) false)))))))
 (.seq
 (.reg [⟨(some 2), .mv (.t 3), none⟩] (fullB 1) false)
 .ret)))))
def rv : List RV := [.tmp 2]
/-! live stable_Tracker_Copy: [0, 2, 3, 4, 5, 7, 14, 15, 16] -/
theorem c : cK Try.prog Try.f45.ntmps (Try.f45.body.getD .ret) = some s := by kernel_rfl
theorem b : Try.f45.body = some (Try.f45.body.getD .ret) := by kernel_rfl
theorem r : cRV Try.prog Try.f45.results.toList = some rv := by kernel_rfl
theorem ca : Callable Try.prog 45 = true := by kernel_rfl
theorem enter {args : List SV} {F : Hp} {k nk : Nat} {Q : SV → Hp → Prop} (hargs : SV.oks (fun n => decide (n < k)) args = true) (hF : F.ok (fun n => decide (n < k)) = true) (hN : args.length ≤ 25)
    (h : SW Try.prog 25 k s ⟨argE 0 args, F, k⟩ fun e st' => match e with | .normal => Fin k nk rv Q st' | .ret => Fin k nk rv Q st' | _ => False) : SB Try.prog 45 args F k nk Q :=
  SB.of_body Try.func45 b c r ca hargs hF hN h
end stable_Tracker_Copy
/-! ### (tranter.stable.Tracker).Counts -/
namespace stable_Tracker_Counts
abbrev f : Nat := 46
def s : SCo := (.seq
(.reg [⟨(some 4), .alloc 25 [(.d (.int .u32 0)), (.d (.int .u32 0)), (.d (.int .u32 0)), (.d (.int .u32 0)), (.d (.int .u32 0)), (.d (.int .u32 0)), (.d (.int .u32 0)), (.d (.int .u32 0))], none⟩,
⟨(some 5), .mv (.k (.d (.int .i64 0))), none⟩] (fullB 2) false)
(.seq
(.block 0
(.seq
 (.reg [⟨(some 7), .mv (.t 0), none⟩,
⟨(some 8), .call (.k (.fn (.func 52) [] [])) [(.t 7)], none⟩,
⟨(some 6), .mv (.t 8), none⟩] (fullB 3) false)
 (.cond (.t 6)
 (.seq
 (.reg [⟨(some 9), .bld [(.d (.int .u32 0)), (.d (.int .u32 0)), (.d (.int .u32 0)), (.d (.int .u32 0)), (.d (.int .u32 0)), (.d (.int .u32 0)), (.d (.int .u32 0)), (.d (.int .u32 0))] [], none⟩,
⟨none, .store 8 (.t 4) (.t 9), none⟩,
⟨(some 5), .mv (.k (.d (.int .i64 1))), none⟩] (fullB 3) false)
 .ret)
 (.seq
 (.reg [⟨(some 11), .mv (.t 1), none⟩,
⟨(some 12), .conv .i64 (.t 11), none⟩,
⟨(some 13), .mv (.t 0), none⟩,
⟨(some 14), .nilc (.t 13), none⟩,
⟨(some 15), .fld 0 (.t 14), none⟩,
⟨(some 16), .load none (.t 15), none⟩,
⟨(some 17), .bin .geq (.t 12) (.t 16), none⟩,
⟨(some 10), .mv (.t 17), none⟩] (fullB 8) false)
 (.cond (.t 10)
 (.seq
  (.reg [⟨(some 18), .bld [(.d (.int .u32 0)), (.d (.int .u32 0)), (.d (.int .u32 0)), (.d (.int .u32 0)), (.d (.int .u32 0)), (.d (.int .u32 0)), (.d (.int .u32 0)), (.d (.int .u32 0))] [], none⟩,
⟨none, .store 8 (.t 4) (.t 18), none⟩,
⟨(some 5), .mv (.k (.d (.int .i64 2))), none⟩] (fullB 3) false)
  .ret)
 .skip)))))
(.seq
(.reg [⟨(some 19), .mv (.t 0), none⟩,
⟨(some 20), .mv (.t 1), none⟩,
⟨(some 21), .nilc (.t 19), none⟩,
⟨(some 22), .fld 10 (.t 21), none⟩,
⟨(some 23), .idxA 8 8 (.t 22) (.t 20), none⟩,
⟨(some 24), .load (some 8) (.t 23), none⟩,
⟨none, .store 8 (.t 4) (.t 24), none⟩,
⟨(some 5), .mv (.k (.d (.int .i64 0))), none⟩] (fullB 8) false)
.ret)))
def rv : List RV := [.cell 4 (some 8), .tmp 5]
/-! live stable_Tracker_Counts: [0, 1, 4, 5, 6, 10] -/
theorem c : cK Try.prog Try.f46.ntmps (Try.f46.body.getD .ret) = some s := by kernel_rfl
theorem b : Try.f46.body = some (Try.f46.body.getD .ret) := by kernel_rfl
theorem r : cRV Try.prog Try.f46.results.toList = some rv := by kernel_rfl
theorem ca : Callable Try.prog 46 = true := by kernel_rfl
theorem enter {args : List SV} {F : Hp} {k nk : Nat} {Q : SV → Hp → Prop} (hargs : SV.oks (fun n => decide (n < k)) args = true) (hF : F.ok (fun n => decide (n < k)) = true) (hN : args.length ≤ 25)
    (h : SW Try.prog 25 k s ⟨argE 0 args, F, k⟩ fun e st' => match e with | .normal => Fin k nk rv Q st' | .ret => Fin k nk rv Q st' | _ => False) : SB Try.prog 46 args F k nk Q :=
  SB.of_body Try.func46 b c r ca hargs hF hN h
end stable_Tracker_Counts
/-! ### tranter.tranterref12.New -/
namespace ref12_New
abbrev f : Nat := 47
def s : SCo := (.seq
(.reg [⟨(some 4), .alloc 81 [(.d (.int .i64 0)), (.d (.int .u8 0)), (.d (.int .u32 0)), (.d (.int .u32 0)), (.d (.int .u32 0)), (.d (.int .u32 0)), (.d (.int .u32 0)), (.d (.int .u32 0)), (.d (.int .u32 0)), (.d (.int .u32 0)), (.d .nils)], none⟩,
⟨(some 5), .mv (.k (.d (.int .i64 0))), none⟩] (fullB 2) false)
(.seq
(.seq
(.reg [⟨(some 6), .mv (.t 0), none⟩,
⟨(some 7), .bin .lss (.t 6) (.k (.d (.int .i64 1))), none⟩,
⟨(some 8), .mv (.t 7), none⟩,
⟨(some 9), .mv (.t 0), some (8, false)⟩,
⟨(some 10), .bin .gtr (.t 9) (.k (.d (.int .i64 8))), some (8, false)⟩,
⟨(some 11), .pick (.t 8) (.k (.d (.bool true))) (.t 10), none⟩,
⟨(some 12), .mv (.t 11), none⟩,
⟨(some 13), .mv (.t 1), some (12, false)⟩,
⟨(some 14), .conv .i64 (.t 13), some (12, false)⟩,
⟨(some 15), .mv (.t 0), some (12, false)⟩,
⟨(some 16), .bin .geq (.t 14) (.t 15), some (12, false)⟩,
⟨(some 17), .pick (.t 12) (.k (.d (.bool true))) (.t 16), none⟩] (fullB 12) false)
(.cond (.t 17)
 (.seq
 (.reg [⟨(some 18), .bld [(.d (.int .i64 0)), (.d (.int .u8 0)), (.d (.int .u32 0)), (.d (.int .u32 0)), (.d (.int .u32 0)), (.d (.int .u32 0)), (.d (.int .u32 0)), (.d (.int .u32 0)), (.d (.int .u32 0)), (.d (.int .u32 0)), (.d .nils)] [], none⟩,
⟨none, .store 11 (.t 4) (.t 18), none⟩,
⟨(some 5), .mv (.k (.d (.int .i64 2))), none⟩] (fullB 3) false)
 .ret)
 .skip))
(.seq
(.reg [⟨(some 19), .mv (.t 0), none⟩,
⟨(some 20), .mv (.t 1), none⟩,
⟨(some 21), .bld [(.d (.int .i64 0)), (.d (.int .u8 0)), (.d (.int .u32 0)), (.d (.int .u32 0)), (.d (.int .u32 0)), (.d (.int .u32 0)), (.d (.int .u32 0)), (.d (.int .u32 0)), (.d (.int .u32 0)), (.d (.int .u32 0)), (.d .nils)] [(0, 1, (.t 19)), (1, 1, (.t 20))], none⟩,
⟨none, .store 11 (.t 4) (.t 21), none⟩,
⟨(some 5), .mv (.k (.d (.int .i64 0))), none⟩] (fullB 5) false)
.ret)))
def rv : List RV := [.cell 4 (some 11), .tmp 5]
/-! live ref12_New: [0, 1, 4, 5, 17] -/
theorem c : cK Try.prog Try.f47.ntmps (Try.f47.body.getD .ret) = some s := by kernel_rfl
theorem b : Try.f47.body = some (Try.f47.body.getD .ret) := by kernel_rfl
theorem r : cRV Try.prog Try.f47.results.toList = some rv := by kernel_rfl
theorem ca : Callable Try.prog 47 = true := by kernel_rfl
theorem enter {args : List SV} {F : Hp} {k nk : Nat} {Q : SV → Hp → Prop} (hargs : SV.oks (fun n => decide (n < k)) args = true) (hF : F.ok (fun n => decide (n < k)) = true) (hN : args.length ≤ 22)
    (h : SW Try.prog 22 k s ⟨argE 0 args, F, k⟩ fun e st' => match e with | .normal => Fin k nk rv Q st' | .ret => Fin k nk rv Q st' | _ => False) : SB Try.prog 47 args F k nk Q :=
  SB.of_body Try.func47 b c r ca hargs hF hN h
end ref12_New
/-! ### tranter.tranterlaw12.does -/
namespace law12_does
abbrev f : Nat := 48
def s : SCo := (.seq
(.reg [⟨(some 4), .box 81 (.t 1), none⟩,
⟨(some 5), .box 33 (.t 2), none⟩,
⟨(some 6), .alloc 81 [(.d (.int .i64 0)), (.d (.int .u8 0)), (.d (.int .u32 0)), (.d (.int .u32 0)), (.d (.int .u32 0)), (.d (.int .u32 0)), (.d (.int .u32 0)), (.d (.int .u32 0)), (.d (.int .u32 0)), (.d (.int .u32 0)), (.d .nils)], none⟩,
⟨(some 7), .mv (.k (.d (.bool false))), none⟩] (fullB 4) false)
(.seq
(.seq
(.reg [⟨(some 12), .fld 0 (.t 5), none⟩,
⟨(some 13), .load none (.t 12), none⟩] (fullB 2) false)
(.cond (.t 13)
 (.seq
 (.reg [⟨(some 15), .load (some 11) (.t 4), none⟩,
⟨(some 16), .fld 2 (.t 5), none⟩,
⟨(some 17), .load (some 8) (.t 16), none⟩,
⟨(some 18), .call (.k (.fn (.func 68) [] [])) [(.t 15), (.t 17)], none⟩,
⟨(some 14), .mv (.t 18), none⟩,
⟨(some 19), .ext 0 (.t 14), none⟩,
⟨(some 20), .ext 1 (.t 14), none⟩,
⟨(some 8), .alloc 81 [(.d (.int .i64 0)), (.d (.int .u8 0)), (.d (.int .u32 0)), (.d (.int .u32 0)), (.d (.int .u32 0)), (.d (.int .u32 0)), (.d (.int .u32 0)), (.d (.int .u32 0)), (.d (.int .u32 0)), (.d (.int .u32 0)), (.d .nils)], none⟩,
⟨none, .store 11 (.t 8) (.t 19), none⟩,
⟨(some 9), .mv (.t 20), none⟩] (fullB 10) false)
 (.seq
 (.reg [⟨(some 21), .load (some 11) (.t 8), none⟩,
⟨(some 22), .mv (.t 0), none⟩,
⟨(some 23), .fld 2 (.t 5), none⟩,
⟨(some 24), .load (some 8) (.t 23), none⟩,
⟨(some 25), .call (.k (.fn (.func 15) [] [])) [(.t 22), (.t 24)], none⟩,
⟨(some 26), .mv (.t 9), none⟩,
⟨(some 27), .bin .eql (.t 25) (.t 26), none⟩,
⟨none, .store 11 (.t 6) (.t 21), none⟩,
⟨(some 7), .mv (.t 27), none⟩] [0,
0,
0,
4,
14,
0,
62,
31,
255] true)
 .ret))
 .skip))
(.seq
(.reg [⟨(some 29), .load (some 11) (.t 4), none⟩,
⟨(some 30), .fld 1 (.t 5), none⟩,
⟨(some 31), .load none (.t 30), none⟩,
⟨(some 32), .fld 2 (.t 5), none⟩,
⟨(some 33), .load (some 8) (.t 32), none⟩,
⟨(some 34), .call (.k (.fn (.func 69) [] [])) [(.t 29), (.t 31), (.t 33)], none⟩,
⟨(some 28), .mv (.t 34), none⟩,
⟨(some 35), .ext 0 (.t 28), none⟩,
⟨(some 36), .ext 1 (.t 28), none⟩,
⟨(some 10), .alloc 81 [(.d (.int .i64 0)), (.d (.int .u8 0)), (.d (.int .u32 0)), (.d (.int .u32 0)), (.d (.int .u32 0)), (.d (.int .u32 0)), (.d (.int .u32 0)), (.d (.int .u32 0)), (.d (.int .u32 0)), (.d (.int .u32 0)), (.d .nils)], none⟩,
⟨none, .store 11 (.t 10) (.t 35), none⟩,
⟨(some 11), .mv (.t 36), none⟩] (fullB 12) false)
(.seq
 (.reg [⟨(some 37), .load (some 11) (.t 10), none⟩,
⟨(some 38), .mv (.t 0), none⟩,
⟨(some 39), .fld 1 (.t 5), none⟩,
⟨(some 40), .load none (.t 39), none⟩,
⟨(some 41), .fld 2 (.t 5), none⟩,
⟨(some 42), .load (some 8) (.t 41), none⟩,
⟨(some 43), .call (.k (.fn (.func 16) [] [])) [(.t 38), (.t 40), (.t 42)], none⟩,
⟨(some 44), .mv (.t 11), none⟩,
⟨(some 45), .bin .eql (.t 43) (.t 44), none⟩,
⟨none, .store 11 (.t 6) (.t 37), none⟩,
⟨(some 7), .mv (.t 45), none⟩] [0,
0,
0,
4,
0,
16,
62,
0,
254,
127,
1023] true)
 .ret))))
def rv : List RV := [.cell 6 (some 11), .tmp 7]
/-! live law12_does: [0, 1, 2, 4, 5, 6, 7, 8, 9, 10, 11, 13] -/
theorem c : cK Try.prog Try.f48.ntmps (Try.f48.body.getD .ret) = some s := by kernel_rfl
theorem b : Try.f48.body = some (Try.f48.body.getD .ret) := by kernel_rfl
theorem r : cRV Try.prog Try.f48.results.toList = some rv := by kernel_rfl
theorem ca : Callable Try.prog 48 = true := by kernel_rfl
theorem enter {args : List SV} {F : Hp} {k nk : Nat} {Q : SV → Hp → Prop} (hargs : SV.oks (fun n => decide (n < k)) args = true) (hF : F.ok (fun n => decide (n < k)) = true) (hN : args.length ≤ 46)
    (h : SW Try.prog 46 k s ⟨argE 0 args, F, k⟩ fun e st' => match e with | .normal => Fin k nk rv Q st' | .ret => Fin k nk rv Q st' | _ => False) : SB Try.prog 48 args F k nk Q :=
  SB.of_body Try.func48 b c r ca hargs hF hN h
end law12_does
/-! ### tranter.tranterlaw12.same -/
namespace law12_same
abbrev f : Nat := 49
def s : SCo := (.seq
(.reg [⟨(some 3), .box 81 (.t 1), none⟩,
⟨(some 4), .mv (.k (.d (.bool false))), none⟩] (fullB 2) false)
(.seq
(.seq
(.reg [⟨(some 5), .mv (.k (.d (.int .i64 0))), none⟩] (fullB 1) false)
(.block 0
 (.loop
 (.seq
 (.seq
 (.reg [⟨(some 10), .mv (.t 5), none⟩,
⟨(some 11), .bin .lss (.t 10) (.k (.d (.int .i64 9))), none⟩] (fullB 2) false)
 (.cond (.t 11)
  .skip
  (.exit 0)))
 (.seq
 (.block 1
  (.seq
  (.reg [⟨(some 15), .mv (.t 0), none⟩,
⟨(some 16), .mv (.t 5), none⟩,
⟨(some 17), .conv .u8 (.t 16), none⟩,
⟨(some 18), .call (.k (.fn (.func 46) [] [])) [(.t 15), (.t 17)], none⟩,
⟨(some 14), .mv (.t 18), none⟩,
⟨(some 19), .ext 0 (.t 14), none⟩,
⟨(some 20), .ext 1 (.t 14), none⟩,
⟨(some 6), .alloc 25 [(.d (.int .u32 0)), (.d (.int .u32 0)), (.d (.int .u32 0)), (.d (.int .u32 0)), (.d (.int .u32 0)), (.d (.int .u32 0)), (.d (.int .u32 0)), (.d (.int .u32 0))], none⟩,
⟨none, .store 8 (.t 6) (.t 19), none⟩,
⟨(some 7), .mv (.t 20), none⟩] (fullB 10) false)
  (.seq
  (.reg [⟨(some 22), .load (some 11) (.t 3), none⟩,
⟨(some 23), .mv (.t 5), none⟩,
⟨(some 24), .conv .u8 (.t 23), none⟩,
⟨(some 25), .call (.k (.fn (.func 70) [] [])) [(.t 22), (.t 24)], none⟩,
⟨(some 21), .mv (.t 25), none⟩,
⟨(some 26), .ext 0 (.t 21), none⟩,
⟨(some 27), .ext 1 (.t 21), none⟩,
⟨(some 8), .alloc 25 [(.d (.int .u32 0)), (.d (.int .u32 0)), (.d (.int .u32 0)), (.d (.int .u32 0)), (.d (.int .u32 0)), (.d (.int .u32 0)), (.d (.int .u32 0)), (.d (.int .u32 0))], none⟩,
⟨none, .store 8 (.t 8) (.t 26), none⟩,
⟨(some 9), .mv (.t 27), none⟩] (fullB 10) false)
  (.seq
  (.reg [⟨(some 28), .load (some 8) (.t 6), none⟩,
⟨(some 29), .load (some 8) (.t 8), none⟩,
⟨(some 30), .eqv true [true, true, true, true, true, true, true, true] (.t 28) (.t 29), none⟩,
⟨(some 31), .mv (.t 30), none⟩,
⟨(some 32), .mv (.t 7), some (31, false)⟩,
⟨(some 33), .mv (.t 9), some (31, false)⟩,
⟨(some 34), .bin .neq (.t 32) (.t 33), some (31, false)⟩,
⟨(some 35), .pick (.t 31) (.k (.d (.bool true))) (.t 34), none⟩] (fullB 8) false)
  (.cond (.t 35)
   (.seq
   (.reg [⟨(some 4), .mv (.k (.d (.bool false))), none⟩] (fullB 1) false)
   .ret)
   .skip)))))
 (.reg [⟨(some 12), .mv (.t 5), none⟩,
⟨(some 13), .bin .add (.t 12) (.k (.d (.int .i64 1))), none⟩,
⟨(some 5), .mv (.t 13), none⟩] (fullB 3) false))))))
(.seq
(.reg (⟨(some 36), .mv (.t 0), none⟩ ::
⟨(some 37), .call (.k (.fn (.func 17) [] [])) [(.t 36)], none⟩ ::
⟨(some 38), .load (some 11) (.t 3), none⟩ ::
⟨(some 39), .call (.k (.fn (.func 71) [] [])) [(.t 38)], none⟩ ::
⟨(some 40), .eqv false [true, true, true, true, true, true, true, true] (.t 37) (.t 39), none⟩ ::
⟨(some 41), .mv (.t 40), none⟩ ::
⟨(some 42), .mv (.t 0), some (41, true)⟩ ::
⟨(some 43), .call (.k (.fn (.func 18) [] [])) [(.t 42)], some (41, true)⟩ ::
⟨(some 44), .load (some 11) (.t 3), some (41, true)⟩ ::
⟨(some 45), .call (.k (.fn (.func 72) [] [])) [(.t 44)], some (41, true)⟩ ::
⟨(some 46), .bin .eql (.t 43) (.t 45), some (41, true)⟩ ::
⟨(some 47), .pick (.t 41) (.t 46) (.k (.d (.bool false))), none⟩ ::
⟨(some 48), .mv (.t 47), none⟩ ::
⟨(some 49), .mv (.t 0), some (48, true)⟩ ::
⟨(some 50), .call (.k (.fn (.func 50) [] [])) [(.t 49)], some (48, true)⟩ ::
⟨(some 51), .fld 2 (.t 3), some (48, true)⟩ ::
⟨(some 52), .load (some 8) (.t 51), some (48, true)⟩ ::
⟨(some 53), .eqv false [true, true, true, true, true, true, true, true] (.t 50) (.t 52), some (48, true)⟩ ::
⟨(some 54), .pick (.t 48) (.t 53) (.k (.d (.bool false))), none⟩ ::
⟨(some 4), .mv (.t 54), none⟩ :: []) (0 ::
1 ::
0 ::
7 ::
15 ::
31 ::
63 ::
127 ::
63 ::
511 ::
1023 ::
2047 ::
4095 ::
8191 ::
16383 ::
8191 ::
40959 ::
131071 ::
262143 ::
524287 :: []) true)
.ret)))
def rv : List RV := [.tmp 4]
/-! live law12_same: [0, 1, 3, 4, 5, 6, 7, 8, 9, 11, 35] -/
theorem c : cK Try.prog Try.f49.ntmps (Try.f49.body.getD .ret) = some s := by kernel_rfl
theorem b : Try.f49.body = some (Try.f49.body.getD .ret) := by kernel_rfl
theorem r : cRV Try.prog Try.f49.results.toList = some rv := by kernel_rfl
theorem ca : Callable Try.prog 49 = true := by kernel_rfl
theorem enter {args : List SV} {F : Hp} {k nk : Nat} {Q : SV → Hp → Prop} (hargs : SV.oks (fun n => decide (n < k)) args = true) (hF : F.ok (fun n => decide (n < k)) = true) (hN : args.length ≤ 55)
    (h : SW Try.prog 55 k s ⟨argE 0 args, F, k⟩ fun e st' => match e with | .normal => Fin k nk rv Q st' | .ret => Fin k nk rv Q st' | _ => False) : SB Try.prog 49 args F k nk Q :=
  SB.of_body Try.func49 b c r ca hargs hF hN h
end law12_same
/-! ### (tranter.stable.Tracker).Own -/
namespace stable_Tracker_Own
abbrev f : Nat := 50
def s : SCo := (.seq
(.reg [⟨(some 2), .alloc 25 [(.d (.int .u32 0)), (.d (.int .u32 0)), (.d (.int .u32 0)), (.d (.int .u32 0)), (.d (.int .u32 0)), (.d (.int .u32 0)), (.d (.int .u32 0)), (.d (.int .u32 0))], none⟩] (fullB 1) false)
(.seq
(.seq
(.reg [⟨(some 3), .mv (.t 0), none⟩,
⟨(some 4), .call (.k (.fn (.func 52) [] [])) [(.t 3)], none⟩] (fullB 2) false)
(.cond (.t 4)
 (.seq
 (.reg [⟨(some 5), .bld [(.d (.int .u32 0)), (.d (.int .u32 0)), (.d (.int .u32 0)), (.d (.int .u32 0)), (.d (.int .u32 0)), (.d (.int .u32 0)), (.d (.int .u32 0)), (.d (.int .u32 0))] [], none⟩,
⟨none, .store 8 (.t 2) (.t 5), none⟩] (fullB 2) false)
 .ret)
 .skip))
(.seq
(.reg [⟨(some 6), .mv (.t 0), none⟩,
⟨(some 7), .nilc (.t 6), none⟩,
⟨(some 8), .fld 2 (.t 7), none⟩,
⟨(some 9), .load (some 8) (.t 8), none⟩,
⟨none, .store 8 (.t 2) (.t 9), none⟩] (fullB 5) false)
.ret)))
def rv : List RV := [.cell 2 (some 8)]
/-! live stable_Tracker_Own: [0, 2, 4] -/
theorem c : cK Try.prog Try.f50.ntmps (Try.f50.body.getD .ret) = some s := by kernel_rfl
theorem b : Try.f50.body = some (Try.f50.body.getD .ret) := by kernel_rfl
theorem r : cRV Try.prog Try.f50.results.toList = some rv := by kernel_rfl
theorem ca : Callable Try.prog 50 = true := by kernel_rfl
theorem enter {args : List SV} {F : Hp} {k nk : Nat} {Q : SV → Hp → Prop} (hargs : SV.oks (fun n => decide (n < k)) args = true) (hF : F.ok (fun n => decide (n < k)) = true) (hN : args.length ≤ 10)
    (h : SW Try.prog 10 k s ⟨argE 0 args, F, k⟩ fun e st' => match e with | .normal => Fin k nk rv Q st' | .ret => Fin k nk rv Q st' | _ => False) : SB Try.prog 50 args F k nk Q :=
  SB.of_body Try.func50 b c r ca hargs hF hN h
end stable_Tracker_Own
/-! ### tranter.tranterlaw12.v -/
namespace law12_v
abbrev f : Nat := 51
def s : SCo := (.seq
(.reg [⟨(some 4), .alloc 25 [(.d (.int .u32 0)), (.d (.int .u32 0)), (.d (.int .u32 0)), (.d (.int .u32 0)), (.d (.int .u32 0)), (.d (.int .u32 0)), (.d (.int .u32 0)), (.d (.int .u32 0))], none⟩] (fullB 1) false)
(.seq
(.reg [⟨(some 5), .mv (.t 0), none⟩,
⟨(some 6), .mv (.t 1), none⟩,
⟨(some 7), .bld [(.d (.int .u32 0)), (.d (.int .u32 0)), (.d (.int .u32 0)), (.d (.int .u32 0)), (.d (.int .u32 0)), (.d (.int .u32 0)), (.d (.int .u32 0)), (.d (.int .u32 0))] [(0, 1, (.t 5)), (1, 1, (.t 6))], none⟩,
⟨none, .store 8 (.t 4) (.t 7), none⟩] (fullB 4) false)
.ret))
def rv : List RV := [.cell 4 (some 8)]
/-! live law12_v: [0, 1, 4] -/
theorem c : cK Try.prog Try.f51.ntmps (Try.f51.body.getD .ret) = some s := by kernel_rfl
theorem b : Try.f51.body = some (Try.f51.body.getD .ret) := by kernel_rfl
theorem r : cRV Try.prog Try.f51.results.toList = some rv := by kernel_rfl
theorem ca : Callable Try.prog 51 = true := by kernel_rfl
theorem enter {args : List SV} {F : Hp} {k nk : Nat} {Q : SV → Hp → Prop} (hargs : SV.oks (fun n => decide (n < k)) args = true) (hF : F.ok (fun n => decide (n < k)) = true) (hN : args.length ≤ 8)
    (h : SW Try.prog 8 k s ⟨argE 0 args, F, k⟩ fun e st' => match e with | .normal => Fin k nk rv Q st' | .ret => Fin k nk rv Q st' | _ => False) : SB Try.prog 51 args F k nk Q :=
  SB.of_body Try.func51 b c r ca hargs hF hN h
end law12_v
/-! ### (tranter.stable.Tracker).none -/
namespace stable_Tracker_none
abbrev f : Nat := 52
def s : SCo := (.seq
(.reg [⟨(some 2), .mv (.k (.d (.bool false))), none⟩] (fullB 1) false)
(.seq
(.reg [⟨(some 3), .mv (.t 0), none⟩,
⟨(some 4), .eqnil false 0 (.t 3), none⟩,
⟨(some 5), .mv (.t 4), none⟩,
⟨(some 6), .mv (.t 0), some (5, false)⟩,
⟨(some 7), .nilc (.t 6), some (5, false)⟩,
⟨(some 8), .fld 0 (.t 7), some (5, false)⟩,
⟨(some 9), .load none (.t 8), some (5, false)⟩,
⟨(some 10), .bin .eql (.t 9) (.k (.d (.int .i64 0))), some (5, false)⟩,
⟨(some 11), .pick (.t 5) (.k (.d (.bool true))) (.t 10), none⟩,
⟨(some 2), .mv (.t 11), none⟩] (fullB 10) false)
.ret))
def rv : List RV := [.tmp 2]
/-! live stable_Tracker_none: [0, 2] -/
theorem c : cK Try.prog Try.f52.ntmps (Try.f52.body.getD .ret) = some s := by kernel_rfl
theorem b : Try.f52.body = some (Try.f52.body.getD .ret) := by kernel_rfl
theorem r : cRV Try.prog Try.f52.results.toList = some rv := by kernel_rfl
theorem ca : Callable Try.prog 52 = true := by kernel_rfl
theorem enter {args : List SV} {F : Hp} {k nk : Nat} {Q : SV → Hp → Prop} (hargs : SV.oks (fun n => decide (n < k)) args = true) (hF : F.ok (fun n => decide (n < k)) = true) (hN : args.length ≤ 12)
    (h : SW Try.prog 12 k s ⟨argE 0 args, F, k⟩ fun e st' => match e with | .normal => Fin k nk rv Q st' | .ret => Fin k nk rv Q st' | _ => False) : SB Try.prog 52 args F k nk Q :=
  SB.of_body Try.func52 b c r ca hargs hF hN h
end stable_Tracker_none
/-! ### (tranter.stable.Tracker).may -/
namespace stable_Tracker_may
abbrev f : Nat := 53
def s : SCo := (.seq
(.reg [⟨(some 3), .box 25 (.t 1), none⟩,
⟨(some 4), .mv (.k (.d (.bool false))), none⟩] (fullB 2) false)
(.seq
(.seq
(.reg [⟨(some 7), .load (some 8) (.t 3), none⟩,
⟨(some 8), .mv (.k (.d (.int .i64 0))), none⟩] (fullB 2) false)
(.block 0
 (.loop
 (.seq
 (.reg [⟨(some 9), .bin .lss (.t 8) (.k (.d (.int .i64 8))), none⟩] (fullB 1) false)
 (.seq
 (.cond (.t 9)
  .skip
  (.exit 0))
 (.seq
  (.block 1
  (.seq
  (.reg [⟨(some 10), .mv (.t 8), none⟩,
⟨(some 11), .index 8 1 false (.t 7) (.t 8), none⟩,
⟨(some 5), .mv (.t 10), none⟩,
⟨(some 6), .mv (.t 11), none⟩] (fullB 4) false)
  (.seq
  (.reg [⟨(some 12), .mv (.t 5), none⟩,
⟨(some 13), .mv (.t 0), none⟩,
⟨(some 14), .nilc (.t 13), none⟩,
⟨(some 15), .fld 0 (.t 14), none⟩,
⟨(some 16), .load none (.t 15), none⟩,
⟨(some 17), .bin .geq (.t 12) (.t 16), none⟩,
⟨(some 18), .mv (.t 17), none⟩,
⟨(some 19), .mv (.t 6), some (18, true)⟩,
⟨(some 20), .bin .gtr (.t 19) (.k (.d (.int .u32 0))), some (18, true)⟩,
⟨(some 21), .pick (.t 18) (.t 20) (.k (.d (.bool false))), none⟩] (fullB 10) false)
  (.cond (.t 21)
   (.seq
   (.reg [⟨(some 4), .mv (.k (.d (.bool false))), none⟩] (fullB 1) false)
   .ret)
   .skip))))
  (.reg [⟨(some 22), .bin .add (.t 8) (.k (.d (.int .i64 1))), none⟩,
⟨(some 8), .mv (.t 22), none⟩] (fullB 2) false)))))))
(.seq
(.reg [⟨(some 4), .mv (.k (.d (.bool true))), none⟩] (fullB 1) false)
.ret)))
def rv : List RV := [.tmp 4]
/-! live stable_Tracker_may: [0, 1, 3, 4, 5, 6, 7, 8, 9, 21] -/
theorem c : cK Try.prog Try.f53.ntmps (Try.f53.body.getD .ret) = some s := by kernel_rfl
theorem b : Try.f53.body = some (Try.f53.body.getD .ret) := by kernel_rfl
theorem r : cRV Try.prog Try.f53.results.toList = some rv := by kernel_rfl
theorem ca : Callable Try.prog 53 = true := by kernel_rfl
theorem enter {args : List SV} {F : Hp} {k nk : Nat} {Q : SV → Hp → Prop} (hargs : SV.oks (fun n => decide (n < k)) args = true) (hF : F.ok (fun n => decide (n < k)) = true) (hN : args.length ≤ 23)
    (h : SW Try.prog 23 k s ⟨argE 0 args, F, k⟩ fun e st' => match e with | .normal => Fin k nk rv Q st' | .ret => Fin k nk rv Q st' | _ => False) : SB Try.prog 53 args F k nk Q :=
  SB.of_body Try.func53 b c r ca hargs hF hN h
end stable_Tracker_may
/-! ### (tranter.stable.Tracker).settle -/
namespace stable_Tracker_settle
abbrev f : Nat := 54
def s : SCo := (.seq
(.reg [⟨(some 1), .box 26 (.t 0), none⟩] (fullB 1) false)
(.seq
(.reg [⟨(some 4), .mkf (.func 73) [] [(.t 1)], none⟩,
⟨(some 2), .mv (.t 4), none⟩] (fullB 2) false)
(.seq
(.seq
 (.reg [⟨(some 5), .load none (.t 1), none⟩,
⟨(some 6), .nilc (.t 5), none⟩,
⟨(some 7), .fld 0 (.t 6), none⟩,
⟨(some 8), .load none (.t 7), none⟩,
⟨(some 9), .mv (.k (.d (.int .i64 0))), none⟩] (fullB 5) false)
 (.block 0
 (.loop
 (.seq
 (.reg [⟨(some 10), .bin .lss (.t 9) (.t 8), none⟩] (fullB 1) false)
 (.seq
  (.cond (.t 10)
  .skip
  (.exit 0))
  (.seq
  (.block 1
  (.seq
  (.reg [⟨(some 11), .mv (.t 9), none⟩,
⟨(some 3), .mv (.t 11), none⟩] (fullB 2) false)
  (.block 2
   (.loop
   (.seq
   (.seq
   (.reg [⟨(some 12), .mv (.t 2), none⟩,
⟨(some 13), .mv (.t 3), none⟩,
⟨(some 14), .call (.t 12) [(.t 13)], none⟩] (fullB 3) false)
   (.cond (.t 14)
    .skip
    (.exit 2)))
   (.block 3
   .skip))))))
  (.reg [⟨(some 15), .bin .add (.t 9) (.k (.d (.int .i64 1))), none⟩,
⟨(some 9), .mv (.t 15), none⟩] (fullB 2) false)))))))
(.reg [⟨(some 16), .load none (.t 1), none⟩,
⟨(some 17), .load none (.t 1), none⟩,
⟨(some 18), .nilc (.t 17), none⟩,
⟨(some 19), .fld 1 (.t 18), none⟩,
⟨(some 20), .load none (.t 19), none⟩,
⟨(some 21), .load none (.t 1), none⟩,
⟨(some 22), .nilc (.t 21), none⟩,
⟨(some 23), .fld 2 (.t 22), none⟩,
⟨(some 24), .load (some 8) (.t 23), none⟩,
⟨(some 25), .nilc (.t 16), none⟩,
⟨(some 26), .fld 10 (.t 25), none⟩,
⟨(some 27), .idxA 8 8 (.t 26) (.t 20), none⟩,
⟨none, .store 8 (.t 27) (.t 24), none⟩] [0,
0,
2,
6,
14,
0,
32,
96,
224,
1,
513,
2047,
4095] true))))
def rv : List RV := []
/-! live stable_Tracker_settle: [0, 1, 2, 3, 8, 9, 10, 14] -/
theorem c : cK Try.prog Try.f54.ntmps (Try.f54.body.getD .ret) = some s := by kernel_rfl
theorem b : Try.f54.body = some (Try.f54.body.getD .ret) := by kernel_rfl
theorem r : cRV Try.prog Try.f54.results.toList = some rv := by kernel_rfl
theorem ca : Callable Try.prog 54 = true := by kernel_rfl
theorem enter {args : List SV} {F : Hp} {k nk : Nat} {Q : SV → Hp → Prop} (hargs : SV.oks (fun n => decide (n < k)) args = true) (hF : F.ok (fun n => decide (n < k)) = true) (hN : args.length ≤ 28)
    (h : SW Try.prog 28 k s ⟨argE 0 args, F, k⟩ fun e st' => match e with | .normal => Fin k nk rv Q st' | .ret => Fin k nk rv Q st' | _ => False) : SB Try.prog 54 args F k nk Q :=
  SB.of_body Try.func54 b c r ca hargs hF hN h
end stable_Tracker_settle
/-! ### tranter.tranterref05.Check -/
namespace ref05_Check
abbrev f : Nat := 55
def s : SCo := (.seq
(.reg [⟨(some 2), .box 48 (.t 0), none⟩,
⟨(some 4), .mv (.k (.d (.int .i64 0))), none⟩] (fullB 2) false)
(.seq
(.seq
(.reg [⟨(some 7), .mv (.t 1), none⟩,
⟨(some 8), .bin .lss (.t 7) (.k (.d (.int .i64 1))), none⟩,
⟨(some 9), .mv (.t 8), none⟩,
⟨(some 10), .mv (.t 1), some (9, false)⟩,
⟨(some 11), .bin .gtr (.t 10) (.k (.d (.int .i64 8))), some (9, false)⟩,
⟨(some 12), .pick (.t 9) (.k (.d (.bool true))) (.t 11), none⟩] (fullB 6) false)
(.cond (.t 12)
 (.seq
 (.reg [⟨(some 4), .mv (.k (.d (.int .i64 2))), none⟩] (fullB 1) false)
 .ret)
 .skip))
(.seq
(.seq
 (.reg (⟨(some 13), .fld 0 (.t 2), none⟩ ::
⟨(some 14), .fld 0 (.t 13), none⟩ ::
⟨(some 15), .load none (.t 14), none⟩ ::
⟨(some 16), .conv .i64 (.t 15), none⟩ ::
⟨(some 17), .mv (.t 1), none⟩ ::
⟨(some 18), .bin .geq (.t 16) (.t 17), none⟩ ::
⟨(some 19), .mv (.t 18), none⟩ ::
⟨(some 20), .fld 0 (.t 2), some (19, false)⟩ ::
⟨(some 21), .fld 1 (.t 20), some (19, false)⟩ ::
⟨(some 22), .load none (.t 21), some (19, false)⟩ ::
⟨(some 23), .bin .eql (.t 22) (.k (.d (.int .u32 0))), some (19, false)⟩ ::
⟨(some 24), .pick (.t 19) (.k (.d (.bool true))) (.t 23), none⟩ ::
⟨(some 25), .mv (.t 24), none⟩ ::
⟨(some 26), .fld 0 (.t 2), some (25, false)⟩ ::
⟨(some 27), .fld 0 (.t 26), some (25, false)⟩ ::
⟨(some 28), .load none (.t 27), some (25, false)⟩ ::
⟨(some 29), .fld 2 (.t 2), some (25, false)⟩ ::
⟨(some 30), .idxA 8 1 (.t 29) (.t 28), some (25, false)⟩ ::
⟨(some 31), .load none (.t 30), some (25, false)⟩ ::
⟨(some 32), .fld 0 (.t 2), some (25, false)⟩ ::
⟨(some 33), .fld 1 (.t 32), some (25, false)⟩ ::
⟨(some 34), .load none (.t 33), some (25, false)⟩ ::
⟨(some 35), .bin .sub (.t 34) (.k (.d (.int .u32 1))), some (25, false)⟩ ::
⟨(some 36), .bin .neq (.t 31) (.t 35), some (25, false)⟩ ::
⟨(some 37), .pick (.t 25) (.k (.d (.bool true))) (.t 36), none⟩ ::
⟨(some 38), .mv (.t 37), none⟩ ::
⟨(some 39), .fld 10 (.t 2), some (38, false)⟩ ::
⟨(some 40), .load none (.t 39), some (38, false)⟩ ::
⟨(some 41), .bin .lss (.t 40) (.k (.d (.int .u64 1))), some (38, false)⟩ ::
⟨(some 42), .pick (.t 38) (.k (.d (.bool true))) (.t 41), none⟩ ::
⟨(some 43), .mv (.t 42), none⟩ ::
⟨(some 44), .fld 10 (.t 2), some (43, false)⟩ ::
⟨(some 45), .load none (.t 44), some (43, false)⟩ ::
⟨(some 46), .bin .gtr (.t 45) (.k (.d (.int .u64 281474976710656))), some (43, false)⟩ ::
⟨(some 47), .pick (.t 43) (.k (.d (.bool true))) (.t 46), none⟩ ::
⟨(some 48), .mv (.t 47), none⟩ ::
⟨(some 49), .fld 11 (.t 2), some (48, false)⟩ ::
⟨(some 50), .load none (.t 49), some (48, false)⟩ ::
⟨(some 51), .bin .eql (.t 50) (.k (.d (.int .u32 0))), some (48, false)⟩ ::
⟨(some 52), .pick (.t 48) (.k (.d (.bool true))) (.t 51), none⟩ ::
⟨(some 53), .mv (.t 52), none⟩ ::
⟨(some 54), .fld 14 (.t 2), some (53, false)⟩ ::
⟨(some 55), .load none (.t 54), some (53, false)⟩ ::
⟨(some 56), .bin .gtr (.t 55) (.k (.d (.int .u8 8))), some (53, false)⟩ ::
⟨(some 57), .pick (.t 53) (.k (.d (.bool true))) (.t 56), none⟩ ::
⟨(some 58), .mv (.t 57), none⟩ ::
⟨(some 59), .load (some 29) (.t 2), some (58, false)⟩ ::
⟨(some 60), .call (.k (.fn (.func 74) [] [])) [(.t 59)], some (58, false)⟩ ::
⟨(some 61), .not (.t 60), some (58, false)⟩ ::
⟨(some 62), .pick (.t 58) (.k (.d (.bool true))) (.t 61), none⟩ :: []) (0 ::
1 ::
3 ::
7 ::
0 ::
31 ::
63 ::
127 ::
255 ::
511 ::
1023 ::
2047 ::
4095 ::
8191 ::
16383 ::
32767 ::
8191 ::
131071 ::
262143 ::
8191 ::
532479 ::
1581055 ::
3678207 ::
8388607 ::
16777215 ::
33554431 ::
67108863 ::
134217727 ::
268435455 ::
536870911 ::
1073741823 ::
2147483647 ::
4294967295 ::
8589934591 ::
17179869183 ::
34359738367 ::
68719476735 ::
137438953471 ::
274877906943 ::
549755813887 ::
1099511627775 ::
2199023255551 ::
4398046511103 ::
8796093022207 ::
17592186044415 ::
35184372088831 ::
70368744177663 ::
140737488355327 ::
281474976710655 ::
562949953421311 :: []) true)
 (.cond (.t 62)
 (.seq
 (.reg [⟨(some 4), .mv (.k (.d (.int .i64 5))), none⟩] (fullB 1) false)
 .ret)
 .skip))
(.seq
 (.seq
 (.reg [⟨(some 63), .mv (.t 1), none⟩,
⟨(some 5), .mv (.t 63), none⟩] (fullB 2) false)
 (.block 0
 (.loop
 (.seq
  (.seq
  (.reg [⟨(some 64), .mv (.t 5), none⟩,
⟨(some 65), .bin .lss (.t 64) (.k (.d (.int .i64 8))), none⟩] (fullB 2) false)
  (.cond (.t 65)
  .skip
  (.exit 0)))
  (.seq
  (.block 1
  (.seq
  (.reg [⟨(some 68), .mv (.t 5), none⟩,
⟨(some 69), .fld 2 (.t 2), none⟩,
⟨(some 70), .idxA 8 1 (.t 69) (.t 68), none⟩,
⟨(some 71), .load none (.t 70), none⟩,
⟨(some 72), .bin .neq (.t 71) (.k (.d (.int .u32 0))), none⟩] (fullB 5) false)
  (.cond (.t 72)
   (.seq
   (.reg [⟨(some 4), .mv (.k (.d (.int .i64 5))), none⟩] (fullB 1) false)
   .ret)
   .skip)))
  (.reg [⟨(some 66), .mv (.t 5), none⟩,
⟨(some 67), .bin .add (.t 66) (.k (.d (.int .i64 1))), none⟩,
⟨(some 5), .mv (.t 67), none⟩] (fullB 3) false))))))
 (.seq
 (.reg [⟨(some 73), .fld 14 (.t 2), none⟩,
⟨(some 74), .load none (.t 73), none⟩,
⟨(some 75), .call (.k (.fn (.func 75) [] [])) [(.t 74)], none⟩,
⟨(some 6), .mv (.t 75), none⟩] (fullB 4) false)
 (.seq
 (.seq
 (.reg (⟨(some 76), .fld 14 (.t 2), none⟩ ::
⟨(some 77), .load none (.t 76), none⟩ ::
⟨(some 78), .bin .eql (.t 77) (.k (.d (.int .u8 0))), none⟩ ::
⟨(some 79), .mv (.t 78), none⟩ ::
⟨(some 80), .fld 12 (.t 2), some (79, true)⟩ ::
⟨(some 81), .load (some 2) (.t 80), some (79, true)⟩ ::
⟨(some 82), .fld 0 (.t 2), some (79, true)⟩ ::
⟨(some 83), .load (some 2) (.t 82), some (79, true)⟩ ::
⟨(some 84), .eqv true [true, true] (.t 81) (.t 83), some (79, true)⟩ ::
⟨(some 85), .pick (.t 79) (.t 84) (.k (.d (.bool false))), none⟩ ::
⟨(some 86), .mv (.t 85), none⟩ ::
⟨(some 87), .fld 14 (.t 2), some (86, false)⟩ ::
⟨(some 88), .load none (.t 87), some (86, false)⟩ ::
⟨(some 89), .bin .neq (.t 88) (.k (.d (.int .u8 0))), some (86, false)⟩ ::
⟨(some 90), .mv (.t 89), some (86, false)⟩ ::
⟨(some 91), .load (some 29) (.t 2), some (90, true)⟩ ::
⟨(some 92), .fld 12 (.t 2), some (90, true)⟩ ::
⟨(some 93), .load (some 2) (.t 92), some (90, true)⟩ ::
⟨(some 94), .call (.k (.fn (.func 76) [] [])) [(.t 91), (.t 93)], some (90, true)⟩ ::
⟨(some 95), .not (.t 94), some (90, true)⟩ ::
⟨(some 96), .pick (.t 90) (.t 95) (.k (.d (.bool false))), some (86, false)⟩ ::
⟨(some 97), .pick (.t 86) (.k (.d (.bool true))) (.t 96), none⟩ ::
⟨(some 98), .mv (.t 97), none⟩ ::
⟨(some 99), .mv (.t 6), some (98, false)⟩ ::
⟨(some 100), .call (.k (.fn (.func 77) [] [])) [(.t 99), (.k (.d (.int .u8 99)))], some (98, false)⟩ ::
⟨(some 101), .mv (.t 100), some (98, false)⟩ ::
⟨(some 102), .load (some 29) (.t 2), some (101, true)⟩ ::
⟨(some 103), .fld 15 (.t 2), some (101, true)⟩ ::
⟨(some 104), .load (some 2) (.t 103), some (101, true)⟩ ::
⟨(some 105), .call (.k (.fn (.func 76) [] [])) [(.t 102), (.t 104)], some (101, true)⟩ ::
⟨(some 106), .not (.t 105), some (101, true)⟩ ::
⟨(some 107), .pick (.t 101) (.t 106) (.k (.d (.bool false))), some (98, false)⟩ ::
⟨(some 108), .pick (.t 98) (.k (.d (.bool true))) (.t 107), none⟩ ::
⟨(some 109), .mv (.t 108), none⟩ ::
⟨(some 110), .mv (.t 6), some (109, false)⟩ ::
⟨(some 111), .call (.k (.fn (.func 77) [] [])) [(.t 110), (.k (.d (.int .u8 97)))], some (109, false)⟩ ::
⟨(some 112), .mv (.t 111), some (109, false)⟩ ::
⟨(some 113), .load (some 29) (.t 2), some (112, true)⟩ ::
⟨(some 114), .fld 21 (.t 2), some (112, true)⟩ ::
⟨(some 115), .load (some 2) (.t 114), some (112, true)⟩ ::
⟨(some 116), .call (.k (.fn (.func 76) [] [])) [(.t 113), (.t 115)], some (112, true)⟩ ::
⟨(some 117), .not (.t 116), some (112, true)⟩ ::
⟨(some 118), .pick (.t 112) (.t 117) (.k (.d (.bool false))), some (109, false)⟩ ::
⟨(some 119), .pick (.t 109) (.k (.d (.bool true))) (.t 118), none⟩ ::
⟨(some 120), .mv (.t 119), none⟩ ::
⟨(some 121), .mv (.t 6), some (120, false)⟩ ::
⟨(some 122), .call (.k (.fn (.func 77) [] [])) [(.t 121), (.k (.d (.int .u8 118)))], some (120, false)⟩ ::
⟨(some 123), .mv (.t 122), some (120, false)⟩ ::
⟨(some 124), .load (some 29) (.t 2), some (123, true)⟩ ::
⟨(some 125), .fld 23 (.t 2), some (123, true)⟩ ::
⟨(some 126), .load (some 2) (.t 125), some (123, true)⟩ ::
⟨(some 127), .call (.k (.fn (.func 76) [] [])) [(.t 124), (.t 126)], some (123, true)⟩ ::
⟨(some 128), .not (.t 127), some (123, true)⟩ ::
⟨(some 129), .pick (.t 123) (.t 128) (.k (.d (.bool false))), some (120, false)⟩ ::
⟨(some 130), .pick (.t 120) (.k (.d (.bool true))) (.t 129), none⟩ :: []) (fullB 55) false)
 (.cond (.t 130)
  (.seq
  (.reg [⟨(some 4), .mv (.k (.d (.int .i64 5))), none⟩] (fullB 1) false)
  .ret)
  .skip))
 (.seq
 (.seq
  (.reg (⟨(some 131), .mv (.t 6), none⟩ ::
⟨(some 132), .call (.k (.fn (.func 77) [] [])) [(.t 131), (.k (.d (.int .u8 116)))], none⟩ ::
⟨(some 133), .mv (.t 132), none⟩ ::
⟨(some 134), .fld 17 (.t 2), some (133, true)⟩ ::
⟨(some 135), .load none (.t 134), some (133, true)⟩ ::
⟨(some 136), .bin .eql (.t 135) (.k (.d (.int .u32 0))), some (133, true)⟩ ::
⟨(some 137), .mv (.t 136), some (133, true)⟩ ::
⟨(some 138), .fld 18 (.t 2), some (137, false)⟩ ::
⟨(some 139), .load none (.t 138), some (137, false)⟩ ::
⟨(some 140), .bin .lss (.t 139) (.k (.d (.int .u8 1))), some (137, false)⟩ ::
⟨(some 141), .pick (.t 137) (.k (.d (.bool true))) (.t 140), some (133, true)⟩ ::
⟨(some 142), .mv (.t 141), some (133, true)⟩ ::
⟨(some 143), .fld 18 (.t 2), some (142, false)⟩ ::
⟨(some 144), .load none (.t 143), some (142, false)⟩ ::
⟨(some 145), .bin .gtr (.t 144) (.k (.d (.int .u8 7))), some (142, false)⟩ ::
⟨(some 146), .pick (.t 142) (.k (.d (.bool true))) (.t 145), some (133, true)⟩ ::
⟨(some 147), .mv (.t 146), some (133, true)⟩ ::
⟨(some 148), .fld 19 (.t 2), some (147, false)⟩ ::
⟨(some 149), .load none (.t 148), some (147, false)⟩ ::
⟨(some 150), .bin .gtr (.t 149) (.k (.d (.int .u8 7))), some (147, false)⟩ ::
⟨(some 151), .pick (.t 147) (.k (.d (.bool true))) (.t 150), some (133, true)⟩ ::
⟨(some 152), .mv (.t 151), some (133, true)⟩ ::
⟨(some 153), .fld 20 (.t 2), some (152, false)⟩ ::
⟨(some 154), .load none (.t 153), some (152, false)⟩ ::
⟨(some 155), .bin .gtr (.t 154) (.k (.d (.int .u64 1099511627776))), some (152, false)⟩ ::
⟨(some 156), .pick (.t 152) (.k (.d (.bool true))) (.t 155), some (133, true)⟩ ::
⟨(some 157), .pick (.t 133) (.t 156) (.k (.d (.bool false))), none⟩ ::
⟨(some 158), .mv (.t 157), none⟩ ::
⟨(some 159), .mv (.t 6), some (158, false)⟩ ::
⟨(some 160), .call (.k (.fn (.func 77) [] [])) [(.t 159), (.k (.d (.int .u8 113)))], some (158, false)⟩ ::
⟨(some 161), .mv (.t 160), some (158, false)⟩ ::
⟨(some 162), .fld 26 (.t 2), some (161, true)⟩ ::
⟨(some 163), .load none (.t 162), some (161, true)⟩ ::
⟨(some 164), .bin .lss (.t 163) (.k (.d (.int .u32 1))), some (161, true)⟩ ::
⟨(some 165), .mv (.t 164), some (161, true)⟩ ::
⟨(some 166), .fld 26 (.t 2), some (165, false)⟩ ::
⟨(some 167), .load none (.t 166), some (165, false)⟩ ::
⟨(some 168), .bin .gtr (.t 167) (.k (.d (.int .u32 65535))), some (165, false)⟩ ::
⟨(some 169), .pick (.t 165) (.k (.d (.bool true))) (.t 168), some (161, true)⟩ ::
⟨(some 170), .pick (.t 161) (.t 169) (.k (.d (.bool false))), some (158, false)⟩ ::
⟨(some 171), .pick (.t 158) (.k (.d (.bool true))) (.t 170), none⟩ ::
⟨(some 172), .mv (.t 171), none⟩ ::
⟨(some 173), .fld 27 (.t 2), some (172, false)⟩ ::
⟨(some 174), .load none (.t 173), some (172, false)⟩ ::
⟨(some 175), .bin .gtr (.t 174) (.k (.d (.int .u32 16777215))), some (172, false)⟩ ::
⟨(some 176), .pick (.t 172) (.k (.d (.bool true))) (.t 175), none⟩ ::
⟨(some 177), .mv (.t 176), none⟩ ::
⟨(some 178), .mv (.t 6), some (177, false)⟩ ::
⟨(some 179), .call (.k (.fn (.func 77) [] [])) [(.t 178), (.k (.d (.int .u8 108)))], some (177, false)⟩ ::
⟨(some 180), .mv (.t 179), some (177, false)⟩ ::
⟨(some 181), .load (some 29) (.t 2), some (180, true)⟩ ::
⟨(some 182), .call (.k (.fn (.func 78) [] [])) [(.t 181)], some (180, true)⟩ ::
⟨(some 183), .not (.t 182), some (180, true)⟩ ::
⟨(some 184), .pick (.t 180) (.t 183) (.k (.d (.bool false))), some (177, false)⟩ ::
⟨(some 185), .pick (.t 177) (.k (.d (.bool true))) (.t 184), none⟩ :: []) (fullB 55) false)
  (.cond (.t 185)
  (.seq
  (.reg [⟨(some 4), .mv (.k (.d (.int .i64 5))), none⟩] (fullB 1) false)
  .ret)
  .skip))
 (.seq
  (.reg [⟨(some 4), .mv (.k (.d (.int .i64 0))), none⟩] (fullB 1) false)
  .ret))))))))
def rv : List RV := [.tmp 4]
/-! live ref05_Check: [0, 1, 2, 4, 5, 6, 12, 62, 65, 72, 130, 185] -/
theorem c : cK Try.prog Try.f55.ntmps (Try.f55.body.getD .ret) = some s := by kernel_rfl
theorem b : Try.f55.body = some (Try.f55.body.getD .ret) := by kernel_rfl
theorem r : cRV Try.prog Try.f55.results.toList = some rv := by kernel_rfl
theorem ca : Callable Try.prog 55 = true := by kernel_rfl
theorem enter {args : List SV} {F : Hp} {k nk : Nat} {Q : SV → Hp → Prop} (hargs : SV.oks (fun n => decide (n < k)) args = true) (hF : F.ok (fun n => decide (n < k)) = true) (hN : args.length ≤ 186)
    (h : SW Try.prog 186 k s ⟨argE 0 args, F, k⟩ fun e st' => match e with | .normal => Fin k nk rv Q st' | .ret => Fin k nk rv Q st' | _ => False) : SB Try.prog 55 args F k nk Q :=
  SB.of_body Try.func55 b c r ca hargs hF hN h
end ref05_Check
/-! ### tranter.tranterref10.one -/
namespace ref10_one
abbrev f : Nat := 56
def s : SCo := (.seq
(.reg [⟨(some 3), .box 48 (.t 1), none⟩,
⟨(some 4), .mv (.k (.d (.bool false))), none⟩] (fullB 2) false)
(.seq
(.seq
(.reg (⟨(some 7), .mv (.t 0), none⟩ ::
⟨(some 8), .fld 0 (.t 3), none⟩ ::
⟨(some 9), .load (some 2) (.t 8), none⟩ ::
⟨(some 10), .call (.k (.fn (.func 79) [] [])) [(.t 7), (.t 9)], none⟩ ::
⟨(some 11), .bin .neq (.t 10) (.k (.d (.int .i64 1))), none⟩ ::
⟨(some 12), .mv (.t 11), none⟩ ::
⟨(some 13), .fld 0 (.t 3), some (12, false)⟩ ::
⟨(some 14), .fld 1 (.t 13), some (12, false)⟩ ::
⟨(some 15), .load none (.t 14), some (12, false)⟩ ::
⟨(some 16), .bin .gtr (.t 15) (.k (.d (.int .u32 1))), some (12, false)⟩ ::
⟨(some 17), .mv (.t 16), some (12, false)⟩ ::
⟨(some 18), .mv (.t 0), some (17, true)⟩ ::
⟨(some 19), .fld 0 (.t 3), some (17, true)⟩ ::
⟨(some 20), .fld 0 (.t 19), some (17, true)⟩ ::
⟨(some 21), .load none (.t 20), some (17, true)⟩ ::
⟨(some 22), .fld 0 (.t 3), some (17, true)⟩ ::
⟨(some 23), .fld 1 (.t 22), some (17, true)⟩ ::
⟨(some 24), .load none (.t 23), some (17, true)⟩ ::
⟨(some 25), .bin .sub (.t 24) (.k (.d (.int .u32 1))), some (17, true)⟩ ::
⟨(some 26), .bld [(.d (.int .u8 0)), (.d (.int .u32 0))] [(0, 1, (.t 21)), (1, 1, (.t 25))], some (17, true)⟩ ::
⟨(some 27), .call (.k (.fn (.func 79) [] [])) [(.t 18), (.t 26)], some (17, true)⟩ ::
⟨(some 28), .bin .neq (.t 27) (.k (.d (.int .i64 1))), some (17, true)⟩ ::
⟨(some 29), .pick (.t 17) (.t 28) (.k (.d (.bool false))), some (12, false)⟩ ::
⟨(some 30), .pick (.t 12) (.k (.d (.bool true))) (.t 29), none⟩ :: []) (fullB 24) false)
(.cond (.t 30)
 (.seq
 (.reg [⟨(some 4), .mv (.k (.d (.bool false))), none⟩] (fullB 1) false)
 .ret)
 .skip))
(.seq
(.seq
 (.reg [⟨(some 5), .mv (.k (.d (.int .i64 0))), none⟩] (fullB 1) false)
 (.block 0
 (.loop
 (.seq
 (.seq
  (.reg [⟨(some 31), .mv (.t 5), none⟩,
⟨(some 32), .bin .lss (.t 31) (.k (.d (.int .i64 8))), none⟩] (fullB 2) false)
  (.cond (.t 32)
  .skip
  (.exit 0)))
 (.seq
  (.block 1
  (.seq
  (.reg (⟨(some 35), .mv (.t 5), none⟩ ::
⟨(some 36), .fld 2 (.t 3), none⟩ ::
⟨(some 37), .idxA 8 1 (.t 36) (.t 35), none⟩ ::
⟨(some 38), .load none (.t 37), none⟩ ::
⟨(some 39), .bin .gtr (.t 38) (.k (.d (.int .u32 0))), none⟩ ::
⟨(some 40), .mv (.t 39), none⟩ ::
⟨(some 41), .mv (.t 0), some (40, true)⟩ ::
⟨(some 42), .mv (.t 5), some (40, true)⟩ ::
⟨(some 43), .conv .u8 (.t 42), some (40, true)⟩ ::
⟨(some 44), .mv (.t 5), some (40, true)⟩ ::
⟨(some 45), .fld 2 (.t 3), some (40, true)⟩ ::
⟨(some 46), .idxA 8 1 (.t 45) (.t 44), some (40, true)⟩ ::
⟨(some 47), .load none (.t 46), some (40, true)⟩ ::
⟨(some 48), .bld [(.d (.int .u8 0)), (.d (.int .u32 0))] [(0, 1, (.t 43)), (1, 1, (.t 47))], some (40, true)⟩ ::
⟨(some 49), .call (.k (.fn (.func 79) [] [])) [(.t 41), (.t 48)], some (40, true)⟩ ::
⟨(some 50), .bin .neq (.t 49) (.k (.d (.int .i64 1))), some (40, true)⟩ ::
⟨(some 51), .pick (.t 40) (.t 50) (.k (.d (.bool false))), none⟩ :: []) (fullB 17) false)
  (.cond (.t 51)
  (.seq
   (.reg [⟨(some 4), .mv (.k (.d (.bool false))), none⟩] (fullB 1) false)
   .ret)
  .skip)))
  (.reg [⟨(some 33), .mv (.t 5), none⟩,
⟨(some 34), .bin .add (.t 33) (.k (.d (.int .i64 1))), none⟩,
⟨(some 5), .mv (.t 34), none⟩] (fullB 3) false))))))
(.seq
 (.seq
 (.reg [⟨(some 6), .mv (.k (.d (.int .i64 0))), none⟩] (fullB 1) false)
 (.block 2
 (.loop
 (.seq
  (.seq
  (.reg [⟨(some 52), .mv (.t 6), none⟩,
⟨(some 53), .mv (.t 0), none⟩,
⟨(some 54), .len (.t 53), none⟩,
⟨(some 55), .bin .lss (.t 52) (.t 54), none⟩] (fullB 4) false)
  (.cond (.t 55)
  .skip
  (.exit 2)))
  (.seq
  (.block 3
  (.seq
  (.reg (⟨(some 58), .mv (.t 0), none⟩ ::
⟨(some 59), .mv (.t 6), none⟩ ::
⟨(some 60), .idxS 29 (.t 58) (.t 59), none⟩ ::
⟨(some 61), .load (some 29) (.t 60), none⟩ ::
⟨(some 62), .load (some 29) (.t 3), none⟩ ::
⟨(some 63), .call (.k (.fn (.func 80) [] [])) [(.t 61), (.t 62)], none⟩ ::
⟨(some 64), .mv (.t 63), none⟩ ::
⟨(some 65), .mv (.t 0), some (64, true)⟩ ::
⟨(some 66), .mv (.t 6), some (64, true)⟩ ::
⟨(some 67), .idxS 29 (.t 65) (.t 66), some (64, true)⟩ ::
⟨(some 68), .fld 10 (.t 67), some (64, true)⟩ ::
⟨(some 69), .load none (.t 68), some (64, true)⟩ ::
⟨(some 70), .fld 10 (.t 3), some (64, true)⟩ ::
⟨(some 71), .load none (.t 70), some (64, true)⟩ ::
⟨(some 72), .bin .geq (.t 69) (.t 71), some (64, true)⟩ ::
⟨(some 73), .mv (.t 72), some (64, true)⟩ ::
⟨(some 74), .fld 2 (.t 3), some (73, false)⟩ ::
⟨(some 75), .load (some 8) (.t 74), some (73, false)⟩ ::
⟨(some 76), .mv (.t 0), some (73, false)⟩ ::
⟨(some 77), .mv (.t 6), some (73, false)⟩ ::
⟨(some 78), .idxS 29 (.t 76) (.t 77), some (73, false)⟩ ::
⟨(some 79), .fld 2 (.t 78), some (73, false)⟩ ::
⟨(some 80), .load (some 8) (.t 79), some (73, false)⟩ ::
⟨(some 81), .call (.k (.fn (.func 23) [] [])) [(.t 75), (.t 80)], some (73, false)⟩ ::
⟨(some 82), .not (.t 81), some (73, false)⟩ ::
⟨(some 83), .pick (.t 73) (.k (.d (.bool true))) (.t 82), some (64, true)⟩ ::
⟨(some 84), .pick (.t 64) (.t 83) (.k (.d (.bool false))), none⟩ :: []) (0 ::
0 ::
3 ::
7 ::
0 ::
31 ::
63 ::
127 ::
127 ::
511 ::
1023 ::
2047 ::
127 ::
4223 ::
16383 ::
32767 ::
65535 ::
131071 ::
65535 ::
65535 ::
851967 ::
1900543 ::
3997695 ::
8388607 ::
16777215 ::
33554431 ::
67108863 :: []) true)
  (.cond (.t 84)
   (.seq
   (.reg [⟨(some 4), .mv (.k (.d (.bool false))), none⟩] (fullB 1) false)
   .ret)
   .skip)))
  (.reg [⟨(some 56), .mv (.t 6), none⟩,
⟨(some 57), .bin .add (.t 56) (.k (.d (.int .i64 1))), none⟩,
⟨(some 6), .mv (.t 57), none⟩] (fullB 3) false))))))
 (.seq
 (.reg [⟨(some 4), .mv (.k (.d (.bool true))), none⟩] (fullB 1) false)
 .ret)))))
def rv : List RV := [.tmp 4]
/-! live ref10_one: [0, 1, 3, 4, 5, 6, 30, 32, 51, 55, 84] -/
theorem c : cK Try.prog Try.f56.ntmps (Try.f56.body.getD .ret) = some s := by kernel_rfl
theorem b : Try.f56.body = some (Try.f56.body.getD .ret) := by kernel_rfl
theorem r : cRV Try.prog Try.f56.results.toList = some rv := by kernel_rfl
theorem ca : Callable Try.prog 56 = true := by kernel_rfl
theorem enter {args : List SV} {F : Hp} {k nk : Nat} {Q : SV → Hp → Prop} (hargs : SV.oks (fun n => decide (n < k)) args = true) (hF : F.ok (fun n => decide (n < k)) = true) (hN : args.length ≤ 85)
    (h : SW Try.prog 85 k s ⟨argE 0 args, F, k⟩ fun e st' => match e with | .normal => Fin k nk rv Q st' | .ret => Fin k nk rv Q st' | _ => False) : SB Try.prog 56 args F k nk Q :=
  SB.of_body Try.func56 b c r ca hargs hF hN h
end ref10_one
/-! ### tranter.tranterref03.May -/
namespace ref03_May
abbrev f : Nat := 57
def s : SCo := (.seq
(.reg [⟨(some 1), .box 44 (.t 0), none⟩,
⟨(some 2), .mv (.k (.d (.bool false))), none⟩] (fullB 2) false)
(.seq
(.reg [⟨(some 3), .fld 0 (.t 1), none⟩,
⟨(some 4), .load none (.t 3), none⟩,
⟨(some 5), .bin .leq (.t 4) (.k (.d (.int .u8 7))), none⟩,
⟨(some 6), .mv (.t 5), none⟩,
⟨(some 7), .fld 1 (.t 1), some (6, true)⟩,
⟨(some 8), .load none (.t 7), some (6, true)⟩,
⟨(some 9), .bin .geq (.t 8) (.k (.d (.int .u32 1))), some (6, true)⟩,
⟨(some 10), .pick (.t 6) (.t 9) (.k (.d (.bool false))), none⟩,
⟨(some 2), .mv (.t 10), none⟩] (fullB 9) false)
.ret))
def rv : List RV := [.tmp 2]
/-! live ref03_May: [0, 1, 2] -/
theorem c : cK Try.prog Try.f57.ntmps (Try.f57.body.getD .ret) = some s := by kernel_rfl
theorem b : Try.f57.body = some (Try.f57.body.getD .ret) := by kernel_rfl
theorem r : cRV Try.prog Try.f57.results.toList = some rv := by kernel_rfl
theorem ca : Callable Try.prog 57 = true := by kernel_rfl
theorem enter {args : List SV} {F : Hp} {k nk : Nat} {Q : SV → Hp → Prop} (hargs : SV.oks (fun n => decide (n < k)) args = true) (hF : F.ok (fun n => decide (n < k)) = true) (hN : args.length ≤ 11)
    (h : SW Try.prog 11 k s ⟨argE 0 args, F, k⟩ fun e st' => match e with | .normal => Fin k nk rv Q st' | .ret => Fin k nk rv Q st' | _ => False) : SB Try.prog 57 args F k nk Q :=
  SB.of_body Try.func57 b c r ca hargs hF hN h
end ref03_May
/-! ### tranter.tranterlaw04.v -/
namespace law04_v
abbrev f : Nat := 58
def s : SCo := (.seq
(.reg [⟨(some 6), .alloc 25 [(.d (.int .u32 0)), (.d (.int .u32 0)), (.d (.int .u32 0)), (.d (.int .u32 0)), (.d (.int .u32 0)), (.d (.int .u32 0)), (.d (.int .u32 0)), (.d (.int .u32 0))], none⟩] (fullB 1) false)
(.seq
(.reg [⟨(some 7), .mv (.t 0), none⟩,
⟨(some 8), .mv (.t 1), none⟩,
⟨(some 9), .mv (.t 2), none⟩,
⟨(some 10), .bld [(.d (.int .u32 0)), (.d (.int .u32 0)), (.d (.int .u32 0)), (.d (.int .u32 0)), (.d (.int .u32 0)), (.d (.int .u32 0)), (.d (.int .u32 0)), (.d (.int .u32 0))] [(0, 1, (.t 7)), (1, 1, (.t 8)), (2, 1, (.t 9))], none⟩,
⟨none, .store 8 (.t 6) (.t 10), none⟩] (fullB 5) false)
.ret))
def rv : List RV := [.cell 6 (some 8)]
/-! live law04_v: [0, 1, 2, 6] -/
theorem c : cK Try.prog Try.f58.ntmps (Try.f58.body.getD .ret) = some s := by kernel_rfl
theorem b : Try.f58.body = some (Try.f58.body.getD .ret) := by kernel_rfl
theorem r : cRV Try.prog Try.f58.results.toList = some rv := by kernel_rfl
theorem ca : Callable Try.prog 58 = true := by kernel_rfl
theorem enter {args : List SV} {F : Hp} {k nk : Nat} {Q : SV → Hp → Prop} (hargs : SV.oks (fun n => decide (n < k)) args = true) (hF : F.ok (fun n => decide (n < k)) = true) (hN : args.length ≤ 11)
    (h : SW Try.prog 11 k s ⟨argE 0 args, F, k⟩ fun e st' => match e with | .normal => Fin k nk rv Q st' | .ret => Fin k nk rv Q st' | _ => False) : SB Try.prog 58 args F k nk Q :=
  SB.of_body Try.func58 b c r ca hargs hF hN h
end law04_v
/-! ### tranter.vector.all[tranter.api.Vector] -/
namespace vector_all_api_Vector
abbrev f : Nat := 59
def s : SCo := (.seq
(.reg [⟨(some 4), .alloc 25 [(.d (.int .u32 0)), (.d (.int .u32 0)), (.d (.int .u32 0)), (.d (.int .u32 0)), (.d (.int .u32 0)), (.d (.int .u32 0)), (.d (.int .u32 0)), (.d (.int .u32 0))], none⟩] (fullB 1) false)
(.seq
(.seq
(.reg [⟨(some 7), .mv (.t 1), none⟩,
⟨(some 8), .len (.t 7), none⟩,
⟨(some 9), .mv (.k (.d (.int .i64 0))), none⟩] (fullB 3) false)
(.block 0
 (.loop
 (.seq
 (.reg [⟨(some 10), .bin .lss (.t 9) (.t 8), none⟩] (fullB 1) false)
 (.seq
 (.cond (.t 10)
  .skip
  (.exit 0))
 (.seq
  (.block 1
  (.seq
  (.reg [⟨(some 11), .mv (.t 9), none⟩,
⟨(some 12), .idxS 8 (.t 7) (.t 9), none⟩,
⟨(some 13), .load (some 8) (.t 12), none⟩,
⟨(some 6), .alloc 25 [(.d (.int .u32 0)), (.d (.int .u32 0)), (.d (.int .u32 0)), (.d (.int .u32 0)), (.d (.int .u32 0)), (.d (.int .u32 0)), (.d (.int .u32 0)), (.d (.int .u32 0))], none⟩,
⟨(some 5), .mv (.t 11), none⟩,
⟨none, .store 8 (.t 6) (.t 13), none⟩] (fullB 6) false)
  (.seq
  (.reg [⟨(some 14), .mv (.t 0), none⟩,
⟨(some 15), .load (some 8) (.t 4), none⟩,
⟨(some 16), .load (some 8) (.t 6), none⟩,
⟨(some 17), .call (.t 14) [(.t 15), (.t 16)], none⟩,
⟨none, .store 8 (.t 4) (.t 17), none⟩] (fullB 5) false)
  (.seq
   (.reg [⟨(some 18), .mv (.t 5), none⟩,
⟨(some 19), .bin .eql (.t 18) (.k (.d (.int .i64 0))), none⟩] (fullB 2) false)
   (.cond (.t 19)
   (.reg [⟨(some 20), .load (some 8) (.t 6), none⟩,
⟨none, .store 8 (.t 4) (.t 20), none⟩] (fullB 2) false)
   .skip)))))
  (.reg [⟨(some 21), .bin .add (.t 9) (.k (.d (.int .i64 1))), none⟩,
⟨(some 9), .mv (.t 21), none⟩] (fullB 2) false)))))))
(.seq
(.reg [⟨(some 22), .load (some 8) (.t 4), none⟩,
⟨none, .store 8 (.t 4) (.t 22), none⟩] (fullB 2) false)
.ret)))
def rv : List RV := [.cell 4 (some 8)]
/-! live vector_all_api_Vector: [0, 1, 4, 5, 6, 7, 8, 9, 10, 19] -/
theorem c : cK Try.prog Try.f59.ntmps (Try.f59.body.getD .ret) = some s := by kernel_rfl
theorem b : Try.f59.body = some (Try.f59.body.getD .ret) := by kernel_rfl
theorem r : cRV Try.prog Try.f59.results.toList = some rv := by kernel_rfl
theorem ca : Callable Try.prog 59 = true := by kernel_rfl
theorem enter {args : List SV} {F : Hp} {k nk : Nat} {Q : SV → Hp → Prop} (hargs : SV.oks (fun n => decide (n < k)) args = true) (hF : F.ok (fun n => decide (n < k)) = true) (hN : args.length ≤ 23)
    (h : SW Try.prog 23 k s ⟨argE 0 args, F, k⟩ fun e st' => match e with | .normal => Fin k nk rv Q st' | .ret => Fin k nk rv Q st' | _ => False) : SB Try.prog 59 args F k nk Q :=
  SB.of_body Try.func59 b c r ca hargs hF hN h
end vector_all_api_Vector
/-! ### tranter.vector.each -/
namespace vector_each
abbrev f : Nat := 60
def s : SCo := (.seq
(.reg [⟨(some 1), .box 105 (.t 0), none⟩,
⟨(some 2), .mv (.k (.d .nilf)), none⟩] (fullB 2) false)
(.seq
(.reg [⟨(some 3), .mkf (.func 81) [] [(.t 1)], none⟩,
⟨(some 2), .mv (.t 3), none⟩] (fullB 2) false)
.ret))
def rv : List RV := [.tmp 2]
/-! live vector_each: [0, 1, 2] -/
theorem c : cK Try.prog Try.f60.ntmps (Try.f60.body.getD .ret) = some s := by kernel_rfl
theorem b : Try.f60.body = some (Try.f60.body.getD .ret) := by kernel_rfl
theorem r : cRV Try.prog Try.f60.results.toList = some rv := by kernel_rfl
theorem ca : Callable Try.prog 60 = true := by kernel_rfl
theorem enter {args : List SV} {F : Hp} {k nk : Nat} {Q : SV → Hp → Prop} (hargs : SV.oks (fun n => decide (n < k)) args = true) (hF : F.ok (fun n => decide (n < k)) = true) (hN : args.length ≤ 4)
    (h : SW Try.prog 4 k s ⟨argE 0 args, F, k⟩ fun e st' => match e with | .normal => Fin k nk rv Q st' | .ret => Fin k nk rv Q st' | _ => False) : SB Try.prog 60 args F k nk Q :=
  SB.of_body Try.func60 b c r ca hargs hF hN h
end vector_each
/-! ### tranter.vector.Merge$1 -/
namespace vector_Merge_1
abbrev f : Nat := 61
def s : SCo := (.seq
(.reg [⟨(some 4), .mv (.k (.d (.int .u32 0))), none⟩] (fullB 1) false)
(.seq
(.reg [⟨(some 5), .mv (.t 0), none⟩,
⟨(some 6), .mv (.t 1), none⟩,
⟨(some 7), .mx (.t 5) (.t 6), none⟩,
⟨(some 4), .mv (.t 7), none⟩] (fullB 4) false)
.ret))
def rv : List RV := [.tmp 4]
/-! live vector_Merge_1: [0, 1, 4] -/
theorem c : cK Try.prog Try.f61.ntmps (Try.f61.body.getD .ret) = some s := by kernel_rfl
theorem b : Try.f61.body = some (Try.f61.body.getD .ret) := by kernel_rfl
theorem r : cRV Try.prog Try.f61.results.toList = some rv := by kernel_rfl
theorem ca : Callable Try.prog 61 = true := by kernel_rfl
theorem enter {args : List SV} {F : Hp} {k nk : Nat} {Q : SV → Hp → Prop} (hargs : SV.oks (fun n => decide (n < k)) args = true) (hF : F.ok (fun n => decide (n < k)) = true) (hN : args.length ≤ 8)
    (h : SW Try.prog 8 k s ⟨argE 0 args, F, k⟩ fun e st' => match e with | .normal => Fin k nk rv Q st' | .ret => Fin k nk rv Q st' | _ => False) : SB Try.prog 61 args F k nk Q :=
  SB.of_body Try.func61 b c r ca hargs hF hN h
end vector_Merge_1
/-! ### tranter.vector.Meet$1 -/
namespace vector_Meet_1
abbrev f : Nat := 62
def s : SCo := (.seq
(.reg [⟨(some 4), .mv (.k (.d (.int .u32 0))), none⟩] (fullB 1) false)
(.seq
(.reg [⟨(some 5), .mv (.t 0), none⟩,
⟨(some 6), .mv (.t 1), none⟩,
⟨(some 7), .mn (.t 5) (.t 6), none⟩,
⟨(some 4), .mv (.t 7), none⟩] (fullB 4) false)
.ret))
def rv : List RV := [.tmp 4]
/-! live vector_Meet_1: [0, 1, 4] -/
theorem c : cK Try.prog Try.f62.ntmps (Try.f62.body.getD .ret) = some s := by kernel_rfl
theorem b : Try.f62.body = some (Try.f62.body.getD .ret) := by kernel_rfl
theorem r : cRV Try.prog Try.f62.results.toList = some rv := by kernel_rfl
theorem ca : Callable Try.prog 62 = true := by kernel_rfl
theorem enter {args : List SV} {F : Hp} {k nk : Nat} {Q : SV → Hp → Prop} (hargs : SV.oks (fun n => decide (n < k)) args = true) (hF : F.ok (fun n => decide (n < k)) = true) (hN : args.length ≤ 8)
    (h : SW Try.prog 8 k s ⟨argE 0 args, F, k⟩ fun e st' => match e with | .normal => Fin k nk rv Q st' | .ret => Fin k nk rv Q st' | _ => False) : SB Try.prog 62 args F k nk Q :=
  SB.of_body Try.func62 b c r ca hargs hF hN h
end vector_Meet_1
/-! ### slices.ContainsFunc[[]tranter.api.Vector,tranter.api.Vector] -/
namespace slices_ContainsFunc_Lapi_Vector_api_Vector
abbrev f : Nat := 63
def s : SCo := (.seq
(.reg [⟨(some 4), .mv (.k (.d (.bool false))), none⟩] (fullB 1) false)
(.seq
(.reg [⟨(some 5), .mv (.t 0), none⟩,
⟨(some 6), .mv (.t 1), none⟩,
⟨(some 7), .call (.k (.fn (.func 82) [] [])) [(.t 5), (.t 6)], none⟩,
⟨(some 8), .bin .geq (.t 7) (.k (.d (.int .i64 0))), none⟩,
⟨(some 4), .mv (.t 8), none⟩] (fullB 5) false)
.ret))
def rv : List RV := [.tmp 4]
/-! live slices_ContainsFunc_Lapi_Vector_api_Vector: [0, 1, 4] -/
theorem c : cK Try.prog Try.f63.ntmps (Try.f63.body.getD .ret) = some s := by kernel_rfl
theorem b : Try.f63.body = some (Try.f63.body.getD .ret) := by kernel_rfl
theorem r : cRV Try.prog Try.f63.results.toList = some rv := by kernel_rfl
theorem ca : Callable Try.prog 63 = true := by kernel_rfl
theorem enter {args : List SV} {F : Hp} {k nk : Nat} {Q : SV → Hp → Prop} (hargs : SV.oks (fun n => decide (n < k)) args = true) (hF : F.ok (fun n => decide (n < k)) = true) (hN : args.length ≤ 9)
    (h : SW Try.prog 9 k s ⟨argE 0 args, F, k⟩ fun e st' => match e with | .normal => Fin k nk rv Q st' | .ret => Fin k nk rv Q st' | _ => False) : SB Try.prog 63 args F k nk Q :=
  SB.of_body Try.func63 b c r ca hargs hF hN h
end slices_ContainsFunc_Lapi_Vector_api_Vector
/-! ### tranter.vector.Tops$1 -/
namespace vector_Tops_1
abbrev f : Nat := 64
def s : SCo := (.seq
(.reg [⟨(some 2), .box 25 (.t 0), none⟩,
⟨(some 3), .mv (.k (.d (.bool false))), none⟩] (fullB 2) false)
(.seq
(.reg [⟨(some 4), .load (some 8) (.t 2), none⟩,
⟨(some 5), .load (some 8) (.t 1), none⟩,
⟨(some 6), .eqv true [true, true, true, true, true, true, true, true] (.t 4) (.t 5), none⟩,
⟨(some 7), .mv (.t 6), none⟩,
⟨(some 8), .load (some 8) (.t 2), some (7, true)⟩,
⟨(some 9), .load (some 8) (.t 1), some (7, true)⟩,
⟨(some 10), .call (.k (.fn (.func 32) [] [])) [(.t 8), (.t 9)], some (7, true)⟩,
⟨(some 11), .pick (.t 7) (.t 10) (.k (.d (.bool false))), none⟩,
⟨(some 3), .mv (.t 11), none⟩] (fullB 9) false)
.ret))
def rv : List RV := [.tmp 3]
/-! live vector_Tops_1: [0, 1, 2, 3] -/
theorem c : cK Try.prog Try.f64.ntmps (Try.f64.body.getD .ret) = some s := by kernel_rfl
theorem b : Try.f64.body = some (Try.f64.body.getD .ret) := by kernel_rfl
theorem r : cRV Try.prog Try.f64.results.toList = some rv := by kernel_rfl
theorem ca : Callable Try.prog 64 = true := by kernel_rfl
theorem enter {args : List SV} {F : Hp} {k nk : Nat} {Q : SV → Hp → Prop} (hargs : SV.oks (fun n => decide (n < k)) args = true) (hF : F.ok (fun n => decide (n < k)) = true) (hN : args.length ≤ 12)
    (h : SW Try.prog 12 k s ⟨argE 0 args, F, k⟩ fun e st' => match e with | .normal => Fin k nk rv Q st' | .ret => Fin k nk rv Q st' | _ => False) : SB Try.prog 64 args F k nk Q :=
  SB.of_body Try.func64 b c r ca hargs hF hN h
end vector_Tops_1
/-! ### tranter.dot.May -/
namespace dot_May
abbrev f : Nat := 65
def s : SCo := (.seq
(.reg [⟨(some 1), .box 44 (.t 0), none⟩,
⟨(some 2), .mv (.k (.d (.bool false))), none⟩] (fullB 2) false)
(.seq
(.reg [⟨(some 3), .fld 0 (.t 1), none⟩,
⟨(some 4), .load none (.t 3), none⟩,
⟨(some 5), .bin .lss (.t 4) (.k (.d (.int .u8 8))), none⟩,
⟨(some 6), .mv (.t 5), none⟩,
⟨(some 7), .fld 1 (.t 1), some (6, true)⟩,
⟨(some 8), .load none (.t 7), some (6, true)⟩,
⟨(some 9), .bin .gtr (.t 8) (.k (.d (.int .u32 0))), some (6, true)⟩,
⟨(some 10), .pick (.t 6) (.t 9) (.k (.d (.bool false))), none⟩,
⟨(some 2), .mv (.t 10), none⟩] (fullB 9) false)
.ret))
def rv : List RV := [.tmp 2]
/-! live dot_May: [0, 1, 2] -/
theorem c : cK Try.prog Try.f65.ntmps (Try.f65.body.getD .ret) = some s := by kernel_rfl
theorem b : Try.f65.body = some (Try.f65.body.getD .ret) := by kernel_rfl
theorem r : cRV Try.prog Try.f65.results.toList = some rv := by kernel_rfl
theorem ca : Callable Try.prog 65 = true := by kernel_rfl
theorem enter {args : List SV} {F : Hp} {k nk : Nat} {Q : SV → Hp → Prop} (hargs : SV.oks (fun n => decide (n < k)) args = true) (hF : F.ok (fun n => decide (n < k)) = true) (hN : args.length ≤ 11)
    (h : SW Try.prog 11 k s ⟨argE 0 args, F, k⟩ fun e st' => match e with | .normal => Fin k nk rv Q st' | .ret => Fin k nk rv Q st' | _ => False) : SB Try.prog 65 args F k nk Q :=
  SB.of_body Try.func65 b c r ca hargs hF hN h
end dot_May
/-! ### tranter.dot.Range -/
namespace dot_Range
abbrev f : Nat := 66
def s : SCo := (.seq
(.reg [⟨(some 6), .mv (.k (.d .nils)), none⟩,
⟨(some 7), .mv (.k (.d (.int .i64 0))), none⟩] (fullB 2) false)
(.seq
(.block 0
(.seq
 (.reg [⟨(some 11), .mv (.t 0), none⟩,
⟨(some 12), .mv (.t 1), none⟩,
⟨(some 13), .bld [(.d (.int .u8 0)), (.d (.int .u32 0))] [(0, 1, (.t 11)), (1, 1, (.t 12))], none⟩,
⟨(some 14), .call (.k (.fn (.func 65) [] [])) [(.t 13)], none⟩,
⟨(some 15), .not (.t 14), none⟩,
⟨(some 10), .mv (.t 15), none⟩] (fullB 6) false)
 (.cond (.t 10)
 (.seq
 (.reg [⟨(some 6), .mv (.k (.d .nils)), none⟩,
⟨(some 7), .mv (.k (.d (.int .i64 2))), none⟩] (fullB 2) false)
 .ret)
 (.seq
 (.reg [⟨(some 17), .mv (.t 2), none⟩,
⟨(some 18), .mv (.t 1), none⟩,
⟨(some 19), .bin .lss (.t 17) (.t 18), none⟩,
⟨(some 16), .mv (.t 19), none⟩] (fullB 4) false)
 (.cond (.t 16)
 (.seq
  (.reg [⟨(some 6), .mv (.k (.d .nils)), none⟩,
⟨(some 7), .mv (.k (.d (.int .i64 0))), none⟩] (fullB 2) false)
  .ret)
 (.seq
  (.reg [⟨(some 21), .mv (.t 2), none⟩,
⟨(some 22), .mv (.t 1), none⟩,
⟨(some 23), .bin .sub (.t 21) (.t 22), none⟩,
⟨(some 24), .bin .geq (.t 23) (.k (.d (.int .u32 65536))), none⟩,
⟨(some 20), .mv (.t 24), none⟩] (fullB 5) false)
  (.cond (.t 20)
  (.seq
  (.reg [⟨(some 6), .mv (.k (.d .nils)), none⟩,
⟨(some 7), .mv (.k (.d (.int .i64 3))), none⟩] (fullB 2) false)
  .ret)
  .skip)))))))
(.seq
(.reg [⟨(some 25), .mv (.t 2), none⟩,
⟨(some 26), .mv (.t 1), none⟩,
⟨(some 27), .bin .sub (.t 25) (.t 26), none⟩,
⟨(some 28), .bin .add (.t 27) (.k (.d (.int .u32 1))), none⟩,
⟨(some 29), .mks 44 2 8 [(.d (.int .u8 0)), (.d (.int .u32 0))] (.k (.d (.int .i64 0))) (.t 28), none⟩,
⟨(some 8), .mv (.t 29), none⟩] (fullB 6) false)
(.seq
 (.seq
 (.reg [⟨(some 30), .mv (.t 2), none⟩,
⟨(some 31), .mv (.t 1), none⟩,
⟨(some 32), .bin .sub (.t 30) (.t 31), none⟩,
⟨(some 33), .bin .add (.t 32) (.k (.d (.int .u32 1))), none⟩,
⟨(some 34), .mv (.k (.d (.int .u32 0))), none⟩] (fullB 5) false)
 (.block 1
 (.loop
 (.seq
  (.reg [⟨(some 35), .bin .lss (.t 34) (.t 33), none⟩] (fullB 1) false)
  (.seq
  (.cond (.t 35)
  .skip
  (.exit 1))
  (.seq
  (.block 2
  (.seq
   (.reg [⟨(some 36), .mv (.t 34), none⟩,
⟨(some 9), .mv (.t 36), none⟩] (fullB 2) false)
   (.reg [⟨(some 37), .mv (.t 8), none⟩,
⟨(some 38), .mv (.t 0), none⟩,
⟨(some 39), .mv (.t 1), none⟩,
⟨(some 40), .mv (.t 9), none⟩,
⟨(some 41), .bin .add (.t 39) (.t 40), none⟩,
⟨(some 42), .bld [(.d (.int .u8 0)), (.d (.int .u32 0))] [(0, 1, (.t 38)), (1, 1, (.t 41))], none⟩,
⟨(some 43), .bsl 44 2 1 [(.d (.int .u8 0)), (.d (.int .u32 0))] [(0, 2, (.t 42))], none⟩,
⟨(some 44), .app 44 2 8 (.t 37) (.t 43), none⟩,
⟨(some 8), .mv (.t 44), none⟩] (fullB 9) false)))
  (.reg [⟨(some 45), .bin .add (.t 34) (.k (.d (.int .u32 1))), none⟩,
⟨(some 34), .mv (.t 45), none⟩] (fullB 2) false)))))))
 (.seq
 (.reg [⟨(some 46), .mv (.t 8), none⟩,
⟨(some 6), .mv (.t 46), none⟩,
⟨(some 7), .mv (.k (.d (.int .i64 0))), none⟩] (fullB 3) false)
 .ret)))))
def rv : List RV := [.tmp 6, .tmp 7]
/-! live dot_Range: [0, 1, 2, 6, 7, 8, 9, 10, 16, 20, 33, 34, 35] -/
theorem c : cK Try.prog Try.f66.ntmps (Try.f66.body.getD .ret) = some s := by kernel_rfl
theorem b : Try.f66.body = some (Try.f66.body.getD .ret) := by kernel_rfl
theorem r : cRV Try.prog Try.f66.results.toList = some rv := by kernel_rfl
theorem ca : Callable Try.prog 66 = true := by kernel_rfl
theorem enter {args : List SV} {F : Hp} {k nk : Nat} {Q : SV → Hp → Prop} (hargs : SV.oks (fun n => decide (n < k)) args = true) (hF : F.ok (fun n => decide (n < k)) = true) (hN : args.length ≤ 47)
    (h : SW Try.prog 47 k s ⟨argE 0 args, F, k⟩ fun e st' => match e with | .normal => Fin k nk rv Q st' | .ret => Fin k nk rv Q st' | _ => False) : SB Try.prog 66 args F k nk Q :=
  SB.of_body Try.func66 b c r ca hargs hF hN h
end dot_Range
/-! ### tranter.tranterref12.Has -/
namespace ref12_Has
abbrev f : Nat := 68
def s : SCo := (.seq
(.reg [⟨(some 2), .box 81 (.t 0), none⟩,
⟨(some 3), .box 25 (.t 1), none⟩,
⟨(some 4), .alloc 81 [(.d (.int .i64 0)), (.d (.int .u8 0)), (.d (.int .u32 0)), (.d (.int .u32 0)), (.d (.int .u32 0)), (.d (.int .u32 0)), (.d (.int .u32 0)), (.d (.int .u32 0)), (.d (.int .u32 0)), (.d (.int .u32 0)), (.d .nils)], none⟩,
⟨(some 5), .mv (.k (.d (.int .i64 0))), none⟩] (fullB 4) false)
(.seq
(.seq
(.reg [⟨(some 6), .load (some 11) (.t 2), none⟩,
⟨(some 7), .load (some 8) (.t 3), none⟩,
⟨(some 8), .call (.k (.fn (.func 84) [] [])) [(.t 6), (.t 7)], none⟩,
⟨(some 9), .not (.t 8), none⟩] (fullB 4) false)
(.cond (.t 9)
 (.seq
 (.reg [⟨(some 10), .load (some 11) (.t 2), none⟩,
⟨none, .store 11 (.t 4) (.t 10), none⟩,
⟨(some 5), .mv (.k (.d (.int .i64 2))), none⟩] (fullB 3) false)
 .ret)
 .skip))
(.seq
(.seq
 (.reg [⟨(some 11), .load (some 8) (.t 3), none⟩,
⟨(some 12), .fld 2 (.t 2), none⟩,
⟨(some 13), .load (some 8) (.t 12), none⟩,
⟨(some 14), .call (.k (.fn (.func 23) [] [])) [(.t 11), (.t 13)], none⟩,
⟨(some 15), .not (.t 14), none⟩] (fullB 5) false)
 (.cond (.t 15)
 (.seq
 (.reg [⟨(some 16), .load (some 11) (.t 2), none⟩,
⟨none, .store 11 (.t 4) (.t 16), none⟩,
⟨(some 5), .mv (.k (.d (.int .i64 9))), none⟩] (fullB 3) false)
 .ret)
 .skip))
(.seq
 (.reg [⟨(some 17), .load (some 8) (.t 3), none⟩,
⟨(some 18), .fld 2 (.t 2), none⟩,
⟨none, .store 8 (.t 18) (.t 17), none⟩] (fullB 3) false)
 (.seq
 (.reg [⟨(some 19), .load (some 11) (.t 2), none⟩,
⟨none, .store 11 (.t 4) (.t 19), none⟩,
⟨(some 5), .mv (.k (.d (.int .i64 0))), none⟩] (fullB 3) false)
 .ret)))))
def rv : List RV := [.cell 4 (some 11), .tmp 5]
/-! live ref12_Has: [0, 1, 2, 3, 4, 5, 9, 15] -/
theorem c : cK Try.prog Try.f68.ntmps (Try.f68.body.getD .ret) = some s := by kernel_rfl
theorem b : Try.f68.body = some (Try.f68.body.getD .ret) := by kernel_rfl
theorem r : cRV Try.prog Try.f68.results.toList = some rv := by kernel_rfl
theorem ca : Callable Try.prog 68 = true := by kernel_rfl
theorem enter {args : List SV} {F : Hp} {k nk : Nat} {Q : SV → Hp → Prop} (hargs : SV.oks (fun n => decide (n < k)) args = true) (hF : F.ok (fun n => decide (n < k)) = true) (hN : args.length ≤ 20)
    (h : SW Try.prog 20 k s ⟨argE 0 args, F, k⟩ fun e st' => match e with | .normal => Fin k nk rv Q st' | .ret => Fin k nk rv Q st' | _ => False) : SB Try.prog 68 args F k nk Q :=
  SB.of_body Try.func68 b c r ca hargs hF hN h
end ref12_Has
/-! ### tranter.tranterref12.Hear -/
namespace ref12_Hear
abbrev f : Nat := 69
def s : SCo := (.seq
(.reg [⟨(some 3), .box 81 (.t 0), none⟩,
⟨(some 5), .box 25 (.t 2), none⟩,
⟨(some 6), .alloc 81 [(.d (.int .i64 0)), (.d (.int .u8 0)), (.d (.int .u32 0)), (.d (.int .u32 0)), (.d (.int .u32 0)), (.d (.int .u32 0)), (.d (.int .u32 0)), (.d (.int .u32 0)), (.d (.int .u32 0)), (.d (.int .u32 0)), (.d .nils)], none⟩,
⟨(some 7), .mv (.k (.d (.int .i64 0))), none⟩] (fullB 4) false)
(.seq
(.seq
(.reg [⟨(some 8), .mv (.t 1), none⟩,
⟨(some 9), .conv .i64 (.t 8), none⟩,
⟨(some 10), .fld 0 (.t 3), none⟩,
⟨(some 11), .load none (.t 10), none⟩,
⟨(some 12), .bin .geq (.t 9) (.t 11), none⟩,
⟨(some 13), .mv (.t 12), none⟩,
⟨(some 14), .load (some 11) (.t 3), some (13, false)⟩,
⟨(some 15), .load (some 8) (.t 5), some (13, false)⟩,
⟨(some 16), .call (.k (.fn (.func 84) [] [])) [(.t 14), (.t 15)], some (13, false)⟩,
⟨(some 17), .not (.t 16), some (13, false)⟩,
⟨(some 18), .pick (.t 13) (.k (.d (.bool true))) (.t 17), none⟩] (fullB 11) false)
(.cond (.t 18)
 (.seq
 (.reg [⟨(some 19), .load (some 11) (.t 3), none⟩,
⟨none, .store 11 (.t 6) (.t 19), none⟩,
⟨(some 7), .mv (.k (.d (.int .i64 2))), none⟩] (fullB 3) false)
 .ret)
 .skip))
(.seq
(.seq
 (.reg [⟨(some 20), .mv (.t 1), none⟩,
⟨(some 21), .fld 1 (.t 3), none⟩,
⟨(some 22), .load none (.t 21), none⟩,
⟨(some 23), .bin .eql (.t 20) (.t 22), none⟩] (fullB 4) false)
 (.cond (.t 23)
 (.seq
 (.seq
 (.reg [⟨(some 24), .fld 2 (.t 3), none⟩,
⟨(some 25), .load (some 8) (.t 24), none⟩,
⟨(some 26), .load (some 8) (.t 5), none⟩,
⟨(some 27), .call (.k (.fn (.func 23) [] [])) [(.t 25), (.t 26)], none⟩,
⟨(some 28), .not (.t 27), none⟩] (fullB 5) false)
 (.cond (.t 28)
  (.seq
  (.reg [⟨(some 29), .load (some 11) (.t 3), none⟩,
⟨none, .store 11 (.t 6) (.t 29), none⟩,
⟨(some 7), .mv (.k (.d (.int .i64 9))), none⟩] (fullB 3) false)
  .ret)
  .skip))
 (.seq
 (.reg [⟨(some 30), .load (some 11) (.t 3), none⟩,
⟨none, .store 11 (.t 6) (.t 30), none⟩,
⟨(some 7), .mv (.k (.d (.int .i64 0))), none⟩] (fullB 3) false)
 .ret))
 .skip))
(.seq
 (.reg [⟨(some 31), .bsl 125 9 0 [] [], none⟩,
⟨(some 32), .fld 10 (.t 3), none⟩,
⟨(some 33), .load none (.t 32), none⟩,
⟨(some 34), .app 125 9 36 (.t 31) (.t 33), none⟩,
⟨(some 35), .mv (.t 1), none⟩,
⟨(some 36), .load (some 8) (.t 5), none⟩,
⟨(some 37), .bld [(.d (.int .u8 0)), (.d (.int .u32 0)), (.d (.int .u32 0)), (.d (.int .u32 0)), (.d (.int .u32 0)), (.d (.int .u32 0)), (.d (.int .u32 0)), (.d (.int .u32 0)), (.d (.int .u32 0))] [(0, 1, (.t 35)), (1, 8, (.t 36))], none⟩,
⟨(some 38), .bsl 125 9 1 [(.d (.int .u8 0)), (.d (.int .u32 0)), (.d (.int .u32 0)), (.d (.int .u32 0)), (.d (.int .u32 0)), (.d (.int .u32 0)), (.d (.int .u32 0)), (.d (.int .u32 0)), (.d (.int .u32 0))] [(0, 9, (.t 37))], none⟩,
⟨(some 39), .app 125 9 36 (.t 34) (.t 38), none⟩,
⟨(some 40), .fld 10 (.t 3), none⟩,
⟨none, .store 1 (.t 40) (.t 39), none⟩] [0,
0,
2,
7,
0,
0,
48,
112,
255,
511,
1023] true)
 (.seq
 (.reg [⟨(some 41), .load (some 11) (.t 3), none⟩,
⟨none, .store 11 (.t 6) (.t 41), none⟩,
⟨(some 7), .mv (.k (.d (.int .i64 0))), none⟩] (fullB 3) false)
 .ret)))))
def rv : List RV := [.cell 6 (some 11), .tmp 7]
/-! live ref12_Hear: [0, 1, 2, 3, 5, 6, 7, 18, 23, 28] -/
theorem c : cK Try.prog Try.f69.ntmps (Try.f69.body.getD .ret) = some s := by kernel_rfl
theorem b : Try.f69.body = some (Try.f69.body.getD .ret) := by kernel_rfl
theorem r : cRV Try.prog Try.f69.results.toList = some rv := by kernel_rfl
theorem ca : Callable Try.prog 69 = true := by kernel_rfl
theorem enter {args : List SV} {F : Hp} {k nk : Nat} {Q : SV → Hp → Prop} (hargs : SV.oks (fun n => decide (n < k)) args = true) (hF : F.ok (fun n => decide (n < k)) = true) (hN : args.length ≤ 42)
    (h : SW Try.prog 42 k s ⟨argE 0 args, F, k⟩ fun e st' => match e with | .normal => Fin k nk rv Q st' | .ret => Fin k nk rv Q st' | _ => False) : SB Try.prog 69 args F k nk Q :=
  SB.of_body Try.func69 b c r ca hargs hF hN h
end ref12_Hear
/-! ### tranter.tranterref12.Counts -/
namespace ref12_Counts
abbrev f : Nat := 70
def s : SCo := (.seq
(.reg [⟨(some 2), .box 81 (.t 0), none⟩,
⟨(some 4), .alloc 25 [(.d (.int .u32 0)), (.d (.int .u32 0)), (.d (.int .u32 0)), (.d (.int .u32 0)), (.d (.int .u32 0)), (.d (.int .u32 0)), (.d (.int .u32 0)), (.d (.int .u32 0))], none⟩,
⟨(some 5), .mv (.k (.d (.int .i64 0))), none⟩] (fullB 3) false)
(.seq
(.seq
(.reg [⟨(some 8), .mv (.t 1), none⟩,
⟨(some 9), .conv .i64 (.t 8), none⟩,
⟨(some 10), .fld 0 (.t 2), none⟩,
⟨(some 11), .load none (.t 10), none⟩,
⟨(some 12), .bin .geq (.t 9) (.t 11), none⟩] (fullB 5) false)
(.cond (.t 12)
 (.seq
 (.reg [⟨(some 13), .bld [(.d (.int .u32 0)), (.d (.int .u32 0)), (.d (.int .u32 0)), (.d (.int .u32 0)), (.d (.int .u32 0)), (.d (.int .u32 0)), (.d (.int .u32 0)), (.d (.int .u32 0))] [], none⟩,
⟨none, .store 8 (.t 4) (.t 13), none⟩,
⟨(some 5), .mv (.k (.d (.int .i64 2))), none⟩] (fullB 3) false)
 .ret)
 .skip))
(.seq
(.seq
 (.reg [⟨(some 14), .mv (.t 1), none⟩,
⟨(some 15), .fld 1 (.t 2), none⟩,
⟨(some 16), .load none (.t 15), none⟩,
⟨(some 17), .bin .eql (.t 14) (.t 16), none⟩] (fullB 4) false)
 (.cond (.t 17)
 (.seq
 (.reg [⟨(some 18), .fld 2 (.t 2), none⟩,
⟨(some 19), .load (some 8) (.t 18), none⟩,
⟨none, .store 8 (.t 4) (.t 19), none⟩,
⟨(some 5), .mv (.k (.d (.int .i64 0))), none⟩] (fullB 4) false)
 .ret)
 .skip))
(.seq
 (.reg [⟨(some 6), .mv (.k (.d .nils)), none⟩] (fullB 1) false)
 (.seq
 (.seq
 (.reg [⟨(some 7), .mv (.k (.d (.int .i64 0))), none⟩] (fullB 1) false)
 (.block 0
 (.loop
  (.seq
  (.seq
  (.reg [⟨(some 20), .mv (.t 7), none⟩,
⟨(some 21), .fld 10 (.t 2), none⟩,
⟨(some 22), .load none (.t 21), none⟩,
⟨(some 23), .len (.t 22), none⟩,
⟨(some 24), .bin .lss (.t 20) (.t 23), none⟩] (fullB 5) false)
  (.cond (.t 24)
  .skip
  (.exit 0)))
  (.seq
  (.block 1
  (.seq
   (.reg (⟨(some 27), .fld 10 (.t 2), none⟩ ::
⟨(some 28), .load none (.t 27), none⟩ ::
⟨(some 29), .mv (.t 7), none⟩ ::
⟨(some 30), .idxS 9 (.t 28) (.t 29), none⟩ ::
⟨(some 31), .fld 0 (.t 30), none⟩ ::
⟨(some 32), .load none (.t 31), none⟩ ::
⟨(some 33), .mv (.t 1), none⟩ ::
⟨(some 34), .bin .eql (.t 32) (.t 33), none⟩ ::
⟨(some 35), .mv (.t 34), none⟩ ::
⟨(some 36), .fld 10 (.t 2), some (35, true)⟩ ::
⟨(some 37), .load none (.t 36), some (35, true)⟩ ::
⟨(some 38), .mv (.t 7), some (35, true)⟩ ::
⟨(some 39), .mv (.t 1), some (35, true)⟩ ::
⟨(some 40), .idxS 9 (.t 37) (.t 38), some (35, true)⟩ ::
⟨(some 41), .fld 1 (.t 40), some (35, true)⟩ ::
⟨(some 42), .idxA 8 1 (.t 41) (.t 39), some (35, true)⟩ ::
⟨(some 43), .load none (.t 42), some (35, true)⟩ ::
⟨(some 44), .mv (.t 1), some (35, true)⟩ ::
⟨(some 45), .fld 2 (.t 2), some (35, true)⟩ ::
⟨(some 46), .idxA 8 1 (.t 45) (.t 44), some (35, true)⟩ ::
⟨(some 47), .load none (.t 46), some (35, true)⟩ ::
⟨(some 48), .bin .leq (.t 43) (.t 47), some (35, true)⟩ ::
⟨(some 49), .pick (.t 35) (.t 48) (.k (.d (.bool false))), none⟩ :: []) (0 ::
1 ::
0 ::
7 ::
15 ::
31 ::
0 ::
127 ::
255 ::
511 ::
1023 ::
511 ::
511 ::
4095 ::
12287 ::
32767 ::
65535 ::
511 ::
511 ::
393727 ::
918015 ::
2097151 ::
4194303 :: []) true)
   (.cond (.t 49)
   (.reg [⟨(some 50), .mv (.t 6), none⟩,
⟨(some 51), .fld 10 (.t 2), none⟩,
⟨(some 52), .load none (.t 51), none⟩,
⟨(some 53), .mv (.t 7), none⟩,
⟨(some 54), .idxS 9 (.t 52) (.t 53), none⟩,
⟨(some 55), .fld 1 (.t 54), none⟩,
⟨(some 56), .load (some 8) (.t 55), none⟩,
⟨(some 57), .bsl 25 8 1 [(.d (.int .u32 0)), (.d (.int .u32 0)), (.d (.int .u32 0)), (.d (.int .u32 0)), (.d (.int .u32 0)), (.d (.int .u32 0)), (.d (.int .u32 0)), (.d (.int .u32 0))] [(0, 8, (.t 56))], none⟩,
⟨(some 58), .app 25 8 32 (.t 50) (.t 57), none⟩,
⟨(some 6), .mv (.t 58), none⟩] (fullB 10) false)
   .skip)))
  (.reg [⟨(some 25), .mv (.t 7), none⟩,
⟨(some 26), .bin .add (.t 25) (.k (.d (.int .i64 1))), none⟩,
⟨(some 7), .mv (.t 26), none⟩] (fullB 3) false))))))
 (.seq
 (.reg [⟨(some 59), .mv (.t 6), none⟩,
⟨(some 60), .call (.k (.fn (.func 26) [] [])) [(.t 59)], none⟩,
⟨none, .store 8 (.t 4) (.t 60), none⟩,
⟨(some 5), .mv (.k (.d (.int .i64 0))), none⟩] (fullB 4) false)
 .ret))))))
def rv : List RV := [.cell 4 (some 8), .tmp 5]
/-! live ref12_Counts: [0, 1, 2, 4, 5, 6, 7, 12, 17, 24, 49] -/
theorem c : cK Try.prog Try.f70.ntmps (Try.f70.body.getD .ret) = some s := by kernel_rfl
theorem b : Try.f70.body = some (Try.f70.body.getD .ret) := by kernel_rfl
theorem r : cRV Try.prog Try.f70.results.toList = some rv := by kernel_rfl
theorem ca : Callable Try.prog 70 = true := by kernel_rfl
theorem enter {args : List SV} {F : Hp} {k nk : Nat} {Q : SV → Hp → Prop} (hargs : SV.oks (fun n => decide (n < k)) args = true) (hF : F.ok (fun n => decide (n < k)) = true) (hN : args.length ≤ 61)
    (h : SW Try.prog 61 k s ⟨argE 0 args, F, k⟩ fun e st' => match e with | .normal => Fin k nk rv Q st' | .ret => Fin k nk rv Q st' | _ => False) : SB Try.prog 70 args F k nk Q :=
  SB.of_body Try.func70 b c r ca hargs hF hN h
end ref12_Counts
/-! ### tranter.tranterref12.Stable -/
namespace ref12_Stable
abbrev f : Nat := 71
def s : SCo := (.seq
(.reg [⟨(some 1), .box 81 (.t 0), none⟩,
⟨(some 2), .alloc 25 [(.d (.int .u32 0)), (.d (.int .u32 0)), (.d (.int .u32 0)), (.d (.int .u32 0)), (.d (.int .u32 0)), (.d (.int .u32 0)), (.d (.int .u32 0)), (.d (.int .u32 0))], none⟩] (fullB 2) false)
(.seq
(.reg [⟨(some 3), .mv (.k (.d .nils)), none⟩] (fullB 1) false)
(.seq
(.seq
 (.reg [⟨(some 4), .mv (.k (.d (.int .i64 0))), none⟩] (fullB 1) false)
 (.block 0
 (.loop
 (.seq
 (.seq
  (.reg [⟨(some 7), .mv (.t 4), none⟩,
⟨(some 8), .fld 0 (.t 1), none⟩,
⟨(some 9), .load none (.t 8), none⟩,
⟨(some 10), .bin .lss (.t 7) (.t 9), none⟩] (fullB 4) false)
  (.cond (.t 10)
  .skip
  (.exit 0)))
 (.seq
  (.block 1
  (.seq
  (.reg [⟨(some 14), .load (some 11) (.t 1), none⟩,
⟨(some 15), .mv (.t 4), none⟩,
⟨(some 16), .conv .u8 (.t 15), none⟩,
⟨(some 17), .call (.k (.fn (.func 70) [] [])) [(.t 14), (.t 16)], none⟩,
⟨(some 13), .mv (.t 17), none⟩,
⟨(some 18), .ext 0 (.t 13), none⟩,
⟨(some 19), .ext 1 (.t 13), none⟩,
⟨(some 5), .alloc 25 [(.d (.int .u32 0)), (.d (.int .u32 0)), (.d (.int .u32 0)), (.d (.int .u32 0)), (.d (.int .u32 0)), (.d (.int .u32 0)), (.d (.int .u32 0)), (.d (.int .u32 0))], none⟩,
⟨none, .store 8 (.t 5) (.t 18), none⟩,
⟨(some 6), .mv (.t 19), none⟩] (fullB 10) false)
  (.reg [⟨(some 20), .mv (.t 3), none⟩,
⟨(some 21), .load (some 8) (.t 5), none⟩,
⟨(some 22), .bsl 25 8 1 [(.d (.int .u32 0)), (.d (.int .u32 0)), (.d (.int .u32 0)), (.d (.int .u32 0)), (.d (.int .u32 0)), (.d (.int .u32 0)), (.d (.int .u32 0)), (.d (.int .u32 0))] [(0, 8, (.t 21))], none⟩,
⟨(some 23), .app 25 8 32 (.t 20) (.t 22), none⟩,
⟨(some 3), .mv (.t 23), none⟩] (fullB 5) false)))
  (.reg [⟨(some 11), .mv (.t 4), none⟩,
⟨(some 12), .bin .add (.t 11) (.k (.d (.int .i64 1))), none⟩,
⟨(some 4), .mv (.t 12), none⟩] (fullB 3) false))))))
(.seq
 (.reg [⟨(some 24), .mv (.t 3), none⟩,
⟨(some 25), .call (.k (.fn (.func 28) [] [])) [(.t 24)], none⟩,
⟨none, .store 8 (.t 2) (.t 25), none⟩] (fullB 3) false)
 .ret))))
def rv : List RV := [.cell 2 (some 8)]
/-! live ref12_Stable: [0, 1, 2, 3, 4, 5, 10] -/
theorem c : cK Try.prog Try.f71.ntmps (Try.f71.body.getD .ret) = some s := by kernel_rfl
theorem b : Try.f71.body = some (Try.f71.body.getD .ret) := by kernel_rfl
theorem r : cRV Try.prog Try.f71.results.toList = some rv := by kernel_rfl
theorem ca : Callable Try.prog 71 = true := by kernel_rfl
theorem enter {args : List SV} {F : Hp} {k nk : Nat} {Q : SV → Hp → Prop} (hargs : SV.oks (fun n => decide (n < k)) args = true) (hF : F.ok (fun n => decide (n < k)) = true) (hN : args.length ≤ 26)
    (h : SW Try.prog 26 k s ⟨argE 0 args, F, k⟩ fun e st' => match e with | .normal => Fin k nk rv Q st' | .ret => Fin k nk rv Q st' | _ => False) : SB Try.prog 71 args F k nk Q :=
  SB.of_body Try.func71 b c r ca hargs hF hN h
end ref12_Stable
/-! ### tranter.tranterref12.Waits -/
namespace ref12_Waits
abbrev f : Nat := 72
def s : SCo := (.seq
(.reg [⟨(some 1), .box 81 (.t 0), none⟩,
⟨(some 2), .mv (.k (.d (.int .i64 0))), none⟩] (fullB 2) false)
(.seq
(.reg [⟨(some 3), .mv (.k (.d .nils)), none⟩] (fullB 1) false)
(.seq
(.seq
 (.reg [⟨(some 4), .mv (.k (.d (.int .i64 0))), none⟩] (fullB 1) false)
 (.block 0
 (.loop
 (.seq
 (.seq
  (.reg [⟨(some 10), .mv (.t 4), none⟩,
⟨(some 11), .fld 10 (.t 1), none⟩,
⟨(some 12), .load none (.t 11), none⟩,
⟨(some 13), .len (.t 12), none⟩,
⟨(some 14), .bin .lss (.t 10) (.t 13), none⟩] (fullB 5) false)
  (.cond (.t 14)
  .skip
  (.exit 0)))
 (.seq
  (.block 1
  (.seq
  (.reg [⟨(some 17), .fld 10 (.t 1), none⟩,
⟨(some 18), .load none (.t 17), none⟩,
⟨(some 19), .mv (.t 4), none⟩,
⟨(some 20), .idxS 9 (.t 18) (.t 19), none⟩,
⟨(some 21), .load (some 9) (.t 20), none⟩,
⟨(some 5), .alloc 125 [(.d (.int .u8 0)), (.d (.int .u32 0)), (.d (.int .u32 0)), (.d (.int .u32 0)), (.d (.int .u32 0)), (.d (.int .u32 0)), (.d (.int .u32 0)), (.d (.int .u32 0)), (.d (.int .u32 0))], none⟩,
⟨none, .store 9 (.t 5) (.t 21), none⟩] (fullB 7) false)
  (.seq
  (.reg [⟨(some 23), .load (some 11) (.t 1), none⟩,
⟨(some 24), .fld 0 (.t 5), none⟩,
⟨(some 25), .load none (.t 24), none⟩,
⟨(some 26), .call (.k (.fn (.func 70) [] [])) [(.t 23), (.t 25)], none⟩,
⟨(some 22), .mv (.t 26), none⟩,
⟨(some 27), .ext 0 (.t 22), none⟩,
⟨(some 28), .ext 1 (.t 22), none⟩,
⟨(some 6), .alloc 25 [(.d (.int .u32 0)), (.d (.int .u32 0)), (.d (.int .u32 0)), (.d (.int .u32 0)), (.d (.int .u32 0)), (.d (.int .u32 0)), (.d (.int .u32 0)), (.d (.int .u32 0))], none⟩,
⟨none, .store 8 (.t 6) (.t 27), none⟩,
⟨(some 7), .mv (.t 28), none⟩] (fullB 10) false)
  (.seq
   (.reg [⟨(some 8), .mv (.k (.d (.bool false))), none⟩] (fullB 1) false)
   (.seq
   (.seq
   (.reg [⟨(some 9), .mv (.k (.d (.int .i64 0))), none⟩] (fullB 1) false)
   (.block 2
   (.loop
    (.seq
    (.seq
    (.reg [⟨(some 29), .mv (.t 9), none⟩,
⟨(some 30), .mv (.t 3), none⟩,
⟨(some 31), .len (.t 30), none⟩,
⟨(some 32), .bin .lss (.t 29) (.t 31), none⟩] (fullB 4) false)
    (.cond (.t 32)
    .skip
    (.exit 2)))
    (.seq
    (.block 3
    (.reg [⟨(some 35), .mv (.t 8), none⟩,
⟨(some 36), .mv (.t 35), none⟩,
⟨(some 37), .mv (.t 3), some (36, false)⟩,
⟨(some 38), .mv (.t 9), some (36, false)⟩,
⟨(some 39), .idxS 9 (.t 37) (.t 38), some (36, false)⟩,
⟨(some 40), .load (some 9) (.t 39), some (36, false)⟩,
⟨(some 41), .load (some 9) (.t 5), some (36, false)⟩,
⟨(some 42), .eqv false [true, true, true, true, true, true, true, true, true] (.t 40) (.t 41), some (36, false)⟩,
⟨(some 43), .pick (.t 36) (.k (.d (.bool true))) (.t 42), none⟩,
⟨(some 8), .mv (.t 43), none⟩] [0,
1,
3,
3,
15,
31,
3,
127,
255,
511] true))
    (.reg [⟨(some 33), .mv (.t 9), none⟩,
⟨(some 34), .bin .add (.t 33) (.k (.d (.int .i64 1))), none⟩,
⟨(some 9), .mv (.t 34), none⟩] (fullB 3) false))))))
   (.seq
   (.reg (⟨(some 44), .mv (.t 8), none⟩ ::
⟨(some 45), .not (.t 44), none⟩ ::
⟨(some 46), .mv (.t 45), none⟩ ::
⟨(some 47), .fld 0 (.t 5), some (46, true)⟩ ::
⟨(some 48), .load none (.t 47), some (46, true)⟩ ::
⟨(some 49), .fld 1 (.t 5), some (46, true)⟩ ::
⟨(some 50), .idxA 8 1 (.t 49) (.t 48), some (46, true)⟩ ::
⟨(some 51), .load none (.t 50), some (46, true)⟩ ::
⟨(some 52), .fld 0 (.t 5), some (46, true)⟩ ::
⟨(some 53), .load none (.t 52), some (46, true)⟩ ::
⟨(some 54), .fld 2 (.t 1), some (46, true)⟩ ::
⟨(some 55), .idxA 8 1 (.t 54) (.t 53), some (46, true)⟩ ::
⟨(some 56), .load none (.t 55), some (46, true)⟩ ::
⟨(some 57), .bin .gtr (.t 51) (.t 56), some (46, true)⟩ ::
⟨(some 58), .pick (.t 46) (.t 57) (.k (.d (.bool false))), none⟩ ::
⟨(some 59), .mv (.t 58), none⟩ ::
⟨(some 60), .load (some 8) (.t 6), some (59, true)⟩ ::
⟨(some 61), .fld 1 (.t 5), some (59, true)⟩ ::
⟨(some 62), .load (some 8) (.t 61), some (59, true)⟩ ::
⟨(some 63), .call (.k (.fn (.func 23) [] [])) [(.t 60), (.t 62)], some (59, true)⟩ ::
⟨(some 64), .not (.t 63), some (59, true)⟩ ::
⟨(some 65), .pick (.t 59) (.t 64) (.k (.d (.bool false))), none⟩ :: []) (0 ::
1 ::
3 ::
7 ::
15 ::
7 ::
63 ::
127 ::
7 ::
263 ::
7 ::
1799 ::
3847 ::
8191 ::
16383 ::
32767 ::
65535 ::
65535 ::
196607 ::
524287 ::
1048575 ::
2097151 :: []) true)
   (.cond (.t 65)
   (.reg [⟨(some 66), .mv (.t 3), none⟩,
⟨(some 67), .load (some 9) (.t 5), none⟩,
⟨(some 68), .bsl 125 9 1 [(.d (.int .u8 0)), (.d (.int .u32 0)), (.d (.int .u32 0)), (.d (.int .u32 0)), (.d (.int .u32 0)), (.d (.int .u32 0)), (.d (.int .u32 0)), (.d (.int .u32 0)), (.d (.int .u32 0))] [(0, 9, (.t 67))], none⟩,
⟨(some 69), .app 125 9 36 (.t 66) (.t 68), none⟩,
⟨(some 3), .mv (.t 69), none⟩] (fullB 5) false)
   .skip)))))))
  (.reg [⟨(some 15), .mv (.t 4), none⟩,
⟨(some 16), .bin .add (.t 15) (.k (.d (.int .i64 1))), none⟩,
⟨(some 4), .mv (.t 16), none⟩] (fullB 3) false))))))
(.seq
 (.reg [⟨(some 70), .mv (.t 3), none⟩,
⟨(some 71), .len (.t 70), none⟩,
⟨(some 2), .mv (.t 71), none⟩] (fullB 3) false)
 .ret))))
def rv : List RV := [.tmp 2]
/-! live ref12_Waits: [0, 1, 2, 3, 4, 5, 6, 8, 9, 14, 32, 65] -/
theorem c : cK Try.prog Try.f72.ntmps (Try.f72.body.getD .ret) = some s := by kernel_rfl
theorem b : Try.f72.body = some (Try.f72.body.getD .ret) := by kernel_rfl
theorem r : cRV Try.prog Try.f72.results.toList = some rv := by kernel_rfl
theorem ca : Callable Try.prog 72 = true := by kernel_rfl
theorem enter {args : List SV} {F : Hp} {k nk : Nat} {Q : SV → Hp → Prop} (hargs : SV.oks (fun n => decide (n < k)) args = true) (hF : F.ok (fun n => decide (n < k)) = true) (hN : args.length ≤ 72)
    (h : SW Try.prog 72 k s ⟨argE 0 args, F, k⟩ fun e st' => match e with | .normal => Fin k nk rv Q st' | .ret => Fin k nk rv Q st' | _ => False) : SB Try.prog 72 args F k nk Q :=
  SB.of_body Try.func72 b c r ca hargs hF hN h
end ref12_Waits
/-! ### (tranter.stable.Tracker).settle$1 -/
namespace stable_Tracker_settle_1
abbrev f : Nat := 73
def s : SCo := (.seq
(.reg [⟨(some 3), .mv (.k (.d (.bool false))), none⟩] (fullB 1) false)
(.seq
(.reg [⟨(some 4), .mv (.k (.d (.bool false))), none⟩] (fullB 1) false)
(.seq
(.seq
 (.reg [⟨(some 6), .load none (.t 1), none⟩,
⟨(some 7), .mv (.t 0), none⟩,
⟨(some 8), .nilc (.t 6), none⟩,
⟨(some 9), .fld 74 (.t 8), none⟩,
⟨(some 10), .idxA 8 1 (.t 9) (.t 7), none⟩,
⟨(some 11), .load none (.t 10), none⟩,
⟨(some 12), .mrange (.t 11), none⟩] (fullB 7) false)
 (.block 0
 (.loop
 (.seq
 (.reg [⟨(some 13), .mnext (.t 12), none⟩,
⟨(some 14), .ext 0 (.t 13), none⟩] (fullB 2) false)
 (.seq
  (.cond (.t 14)
  .skip
  (.exit 0))
  (.block 1
  (.seq
  (.reg [⟨(some 15), .mentry (.t 12), none⟩,
⟨(some 16), .ext 0 (.t 15), none⟩,
⟨(some 5), .alloc 25 [(.d (.int .u32 0)), (.d (.int .u32 0)), (.d (.int .u32 0)), (.d (.int .u32 0)), (.d (.int .u32 0)), (.d (.int .u32 0)), (.d (.int .u32 0)), (.d (.int .u32 0))], none⟩,
⟨none, .store 8 (.t 5) (.t 16), none⟩] (fullB 4) false)
  (.seq
  (.block 2
   (.seq
   (.reg [⟨(some 18), .mv (.t 0), none⟩,
⟨(some 19), .idxA 8 1 (.t 5) (.t 18), none⟩,
⟨(some 20), .load none (.t 19), none⟩,
⟨(some 21), .load none (.t 1), none⟩,
⟨(some 22), .mv (.t 0), none⟩,
⟨(some 23), .nilc (.t 21), none⟩,
⟨(some 24), .fld 2 (.t 23), none⟩,
⟨(some 25), .idxA 8 1 (.t 24) (.t 22), none⟩,
⟨(some 26), .load none (.t 25), none⟩,
⟨(some 27), .bin .leq (.t 20) (.t 26), none⟩,
⟨(some 17), .mv (.t 27), none⟩] [0,
1,
3,
0,
0,
8,
40,
120,
248,
511,
1023] true)
   (.cond (.t 17)
   (.reg [⟨(some 28), .load none (.t 1), none⟩,
⟨(some 29), .mv (.t 0), none⟩,
⟨(some 30), .load none (.t 1), none⟩,
⟨(some 31), .mv (.t 0), none⟩,
⟨(some 32), .nilc (.t 30), none⟩,
⟨(some 33), .fld 10 (.t 32), none⟩,
⟨(some 34), .idxA 8 8 (.t 33) (.t 31), none⟩,
⟨(some 35), .load (some 8) (.t 34), none⟩,
⟨(some 36), .load (some 8) (.t 5), none⟩,
⟨(some 37), .bsl 25 8 2 [(.d (.int .u32 0)), (.d (.int .u32 0)), (.d (.int .u32 0)), (.d (.int .u32 0)), (.d (.int .u32 0)), (.d (.int .u32 0)), (.d (.int .u32 0)), (.d (.int .u32 0)), (.d (.int .u32 0)), (.d (.int .u32 0)), (.d (.int .u32 0)), (.d (.int .u32 0)), (.d (.int .u32 0)), (.d (.int .u32 0)), (.d (.int .u32 0)), (.d (.int .u32 0))] [(0, 8, (.t 35)), (8, 8, (.t 36))], none⟩,
⟨(some 38), .call (.k (.fn (.func 25) [] [])) [(.t 37)], none⟩,
⟨(some 39), .nilc (.t 28), none⟩,
⟨(some 40), .fld 10 (.t 39), none⟩,
⟨(some 41), .idxA 8 8 (.t 40) (.t 29), none⟩,
⟨none, .store 8 (.t 41) (.t 38), none⟩] [0,
0,
0,
0,
4,
20,
60,
124,
0,
508,
1020,
1,
2049,
8191,
16383] true)
   (.seq
   (.reg [⟨(some 43), .load none (.t 1), none⟩,
⟨(some 44), .mv (.t 0), none⟩,
⟨(some 45), .nilc (.t 43), none⟩,
⟨(some 46), .fld 10 (.t 45), none⟩,
⟨(some 47), .idxA 8 8 (.t 46) (.t 44), none⟩,
⟨(some 48), .load (some 8) (.t 47), none⟩,
⟨(some 49), .load (some 8) (.t 5), none⟩,
⟨(some 50), .call (.k (.fn (.func 32) [] [])) [(.t 48), (.t 49)], none⟩,
⟨(some 51), .not (.t 50), none⟩,
⟨(some 42), .mv (.t 51), none⟩] [0,
0,
1,
5,
15,
31,
0,
127,
255,
511] true)
   (.cond (.t 42)
    (.exit 1)
    .skip)))))
  (.seq
   (.reg [⟨(some 52), .load none (.t 1), none⟩,
⟨(some 53), .mv (.t 0), none⟩,
⟨(some 54), .nilc (.t 52), none⟩,
⟨(some 55), .fld 74 (.t 54), none⟩,
⟨(some 56), .idxA 8 1 (.t 55) (.t 53), none⟩,
⟨(some 57), .load none (.t 56), none⟩,
⟨(some 58), .load (some 8) (.t 5), none⟩,
⟨none, .mdel [true, true, true, true, true, true, true, true] true (.t 57) (.t 58), none⟩] [0,
0,
1,
5,
15,
31,
0,
127] true)
   (.reg [⟨(some 4), .mv (.k (.d (.bool true))), none⟩] (fullB 1) false))))))))))
(.seq
 (.reg [⟨(some 59), .mv (.t 4), none⟩,
⟨(some 3), .mv (.t 59), none⟩] (fullB 2) false)
 .ret))))
def rv : List RV := [.tmp 3]
/-! live stable_Tracker_settle_1: [0, 1, 3, 4, 5, 12, 14, 17, 42] -/
theorem c : cK Try.prog Try.f73.ntmps (Try.f73.body.getD .ret) = some s := by kernel_rfl
theorem b : Try.f73.body = some (Try.f73.body.getD .ret) := by kernel_rfl
theorem r : cRV Try.prog Try.f73.results.toList = some rv := by kernel_rfl
theorem ca : Callable Try.prog 73 = true := by kernel_rfl
theorem enter {args : List SV} {F : Hp} {k nk : Nat} {Q : SV → Hp → Prop} (hargs : SV.oks (fun n => decide (n < k)) args = true) (hF : F.ok (fun n => decide (n < k)) = true) (hN : args.length ≤ 60)
    (h : SW Try.prog 60 k s ⟨argE 0 args, F, k⟩ fun e st' => match e with | .normal => Fin k nk rv Q st' | .ret => Fin k nk rv Q st' | _ => False) : SB Try.prog 73 args F k nk Q :=
  SB.of_body Try.func73 b c r ca hargs hF hN h
end stable_Tracker_settle_1
/-! ### tranter.tranterref05.zero -/
namespace ref05_zero
abbrev f : Nat := 74
def s : SCo := (.seq
(.reg [⟨(some 1), .box 48 (.t 0), none⟩,
⟨(some 2), .mv (.k (.d (.bool false))), none⟩] (fullB 2) false)
(.seq
(.reg [⟨(some 5), .fld 14 (.t 1), none⟩,
⟨(some 6), .load none (.t 5), none⟩,
⟨(some 7), .call (.k (.fn (.func 75) [] [])) [(.t 6)], none⟩,
⟨(some 3), .mv (.t 7), none⟩] (fullB 4) false)
(.seq
(.reg [⟨(some 8), .bld [(.d (.int .u8 0)), (.d (.int .u32 0))] [], none⟩,
⟨(some 4), .alloc 44 [(.d (.int .u8 0)), (.d (.int .u32 0))], none⟩,
⟨none, .store 2 (.t 4) (.t 8), none⟩] (fullB 3) false)
(.seq
 (.reg (⟨(some 9), .mv (.t 3), none⟩ ::
⟨(some 10), .call (.k (.fn (.func 77) [] [])) [(.t 9), (.k (.d (.int .u8 99)))], none⟩ ::
⟨(some 11), .mv (.t 10), none⟩ ::
⟨(some 12), .fld 15 (.t 1), some (11, false)⟩ ::
⟨(some 13), .load (some 2) (.t 12), some (11, false)⟩ ::
⟨(some 14), .load (some 2) (.t 4), some (11, false)⟩ ::
⟨(some 15), .eqv false [true, true] (.t 13) (.t 14), some (11, false)⟩ ::
⟨(some 16), .pick (.t 11) (.k (.d (.bool true))) (.t 15), none⟩ ::
⟨(some 17), .mv (.t 16), none⟩ ::
⟨(some 18), .mv (.t 3), some (17, true)⟩ ::
⟨(some 19), .call (.k (.fn (.func 77) [] [])) [(.t 18), (.k (.d (.int .u8 116)))], some (17, true)⟩ ::
⟨(some 20), .mv (.t 19), some (17, true)⟩ ::
⟨(some 21), .fld 17 (.t 1), some (20, false)⟩ ::
⟨(some 22), .load none (.t 21), some (20, false)⟩ ::
⟨(some 23), .bin .eql (.t 22) (.k (.d (.int .u32 0))), some (20, false)⟩ ::
⟨(some 24), .pick (.t 20) (.k (.d (.bool true))) (.t 23), some (17, true)⟩ ::
⟨(some 25), .pick (.t 17) (.t 24) (.k (.d (.bool false))), none⟩ ::
⟨(some 26), .mv (.t 25), none⟩ ::
⟨(some 27), .mv (.t 3), some (26, true)⟩ ::
⟨(some 28), .call (.k (.fn (.func 77) [] [])) [(.t 27), (.k (.d (.int .u8 114)))], some (26, true)⟩ ::
⟨(some 29), .mv (.t 28), some (26, true)⟩ ::
⟨(some 30), .fld 18 (.t 1), some (29, false)⟩ ::
⟨(some 31), .load none (.t 30), some (29, false)⟩ ::
⟨(some 32), .bin .eql (.t 31) (.k (.d (.int .u8 0))), some (29, false)⟩ ::
⟨(some 33), .pick (.t 29) (.k (.d (.bool true))) (.t 32), some (26, true)⟩ ::
⟨(some 34), .pick (.t 26) (.t 33) (.k (.d (.bool false))), none⟩ ::
⟨(some 35), .mv (.t 34), none⟩ ::
⟨(some 36), .mv (.t 3), some (35, true)⟩ ::
⟨(some 37), .call (.k (.fn (.func 77) [] [])) [(.t 36), (.k (.d (.int .u8 100)))], some (35, true)⟩ ::
⟨(some 38), .mv (.t 37), some (35, true)⟩ ::
⟨(some 39), .fld 19 (.t 1), some (38, false)⟩ ::
⟨(some 40), .load none (.t 39), some (38, false)⟩ ::
⟨(some 41), .bin .eql (.t 40) (.k (.d (.int .u8 0))), some (38, false)⟩ ::
⟨(some 42), .pick (.t 38) (.k (.d (.bool true))) (.t 41), some (35, true)⟩ ::
⟨(some 43), .pick (.t 35) (.t 42) (.k (.d (.bool false))), none⟩ ::
⟨(some 44), .mv (.t 43), none⟩ ::
⟨(some 45), .mv (.t 3), some (44, true)⟩ ::
⟨(some 46), .call (.k (.fn (.func 77) [] [])) [(.t 45), (.k (.d (.int .u8 112)))], some (44, true)⟩ ::
⟨(some 47), .mv (.t 46), some (44, true)⟩ ::
⟨(some 48), .fld 20 (.t 1), some (47, false)⟩ ::
⟨(some 49), .load none (.t 48), some (47, false)⟩ ::
⟨(some 50), .bin .eql (.t 49) (.k (.d (.int .u64 0))), some (47, false)⟩ ::
⟨(some 51), .pick (.t 47) (.k (.d (.bool true))) (.t 50), some (44, true)⟩ ::
⟨(some 52), .pick (.t 44) (.t 51) (.k (.d (.bool false))), none⟩ ::
⟨(some 53), .mv (.t 52), none⟩ ::
⟨(some 54), .mv (.t 3), some (53, true)⟩ ::
⟨(some 55), .call (.k (.fn (.func 77) [] [])) [(.t 54), (.k (.d (.int .u8 97)))], some (53, true)⟩ ::
⟨(some 56), .mv (.t 55), some (53, true)⟩ ::
⟨(some 57), .fld 21 (.t 1), some (56, false)⟩ ::
⟨(some 58), .load (some 2) (.t 57), some (56, false)⟩ ::
⟨(some 59), .load (some 2) (.t 4), some (56, false)⟩ ::
⟨(some 60), .eqv false [true, true] (.t 58) (.t 59), some (56, false)⟩ ::
⟨(some 61), .pick (.t 56) (.k (.d (.bool true))) (.t 60), some (53, true)⟩ ::
⟨(some 62), .pick (.t 53) (.t 61) (.k (.d (.bool false))), none⟩ ::
⟨(some 63), .mv (.t 62), none⟩ ::
⟨(some 64), .mv (.t 3), some (63, true)⟩ ::
⟨(some 65), .call (.k (.fn (.func 77) [] [])) [(.t 64), (.k (.d (.int .u8 118)))], some (63, true)⟩ ::
⟨(some 66), .mv (.t 65), some (63, true)⟩ ::
⟨(some 67), .fld 23 (.t 1), some (66, false)⟩ ::
⟨(some 68), .load (some 2) (.t 67), some (66, false)⟩ ::
⟨(some 69), .load (some 2) (.t 4), some (66, false)⟩ ::
⟨(some 70), .eqv false [true, true] (.t 68) (.t 69), some (66, false)⟩ ::
⟨(some 71), .pick (.t 66) (.k (.d (.bool true))) (.t 70), some (63, true)⟩ ::
⟨(some 72), .pick (.t 63) (.t 71) (.k (.d (.bool false))), none⟩ ::
⟨(some 73), .mv (.t 72), none⟩ ::
⟨(some 74), .mv (.t 3), some (73, true)⟩ ::
⟨(some 75), .call (.k (.fn (.func 77) [] [])) [(.t 74), (.k (.d (.int .u8 105)))], some (73, true)⟩ ::
⟨(some 76), .mv (.t 75), some (73, true)⟩ ::
⟨(some 77), .fld 25 (.t 1), some (76, false)⟩ ::
⟨(some 78), .load none (.t 77), some (76, false)⟩ ::
⟨(some 79), .bin .eql (.t 78) (.k (.d (.int .u32 0))), some (76, false)⟩ ::
⟨(some 80), .pick (.t 76) (.k (.d (.bool true))) (.t 79), some (73, true)⟩ ::
⟨(some 81), .pick (.t 73) (.t 80) (.k (.d (.bool false))), none⟩ ::
⟨(some 82), .mv (.t 81), none⟩ ::
⟨(some 83), .mv (.t 3), some (82, true)⟩ ::
⟨(some 84), .call (.k (.fn (.func 77) [] [])) [(.t 83), (.k (.d (.int .u8 113)))], some (82, true)⟩ ::
⟨(some 85), .mv (.t 84), some (82, true)⟩ ::
⟨(some 86), .fld 26 (.t 1), some (85, false)⟩ ::
⟨(some 87), .load none (.t 86), some (85, false)⟩ ::
⟨(some 88), .bin .eql (.t 87) (.k (.d (.int .u32 0))), some (85, false)⟩ ::
⟨(some 89), .pick (.t 85) (.k (.d (.bool true))) (.t 88), some (82, true)⟩ ::
⟨(some 90), .pick (.t 82) (.t 89) (.k (.d (.bool false))), none⟩ ::
⟨(some 91), .mv (.t 90), none⟩ ::
⟨(some 92), .mv (.t 3), some (91, true)⟩ ::
⟨(some 93), .call (.k (.fn (.func 77) [] [])) [(.t 92), (.k (.d (.int .u8 101)))], some (91, true)⟩ ::
⟨(some 94), .mv (.t 93), some (91, true)⟩ ::
⟨(some 95), .fld 27 (.t 1), some (94, false)⟩ ::
⟨(some 96), .load none (.t 95), some (94, false)⟩ ::
⟨(some 97), .bin .eql (.t 96) (.k (.d (.int .u32 0))), some (94, false)⟩ ::
⟨(some 98), .pick (.t 94) (.k (.d (.bool true))) (.t 97), some (91, true)⟩ ::
⟨(some 99), .pick (.t 91) (.t 98) (.k (.d (.bool false))), none⟩ ::
⟨(some 100), .mv (.t 99), none⟩ ::
⟨(some 101), .mv (.t 3), some (100, true)⟩ ::
⟨(some 102), .call (.k (.fn (.func 77) [] [])) [(.t 101), (.k (.d (.int .u8 108)))], some (100, true)⟩ ::
⟨(some 103), .mv (.t 102), some (100, true)⟩ ::
⟨(some 104), .fld 28 (.t 1), some (103, false)⟩ ::
⟨(some 105), .load none (.t 104), some (103, false)⟩ ::
⟨(some 106), .len (.t 105), some (103, false)⟩ ::
⟨(some 107), .bin .eql (.t 106) (.k (.d (.int .i64 0))), some (103, false)⟩ ::
⟨(some 108), .pick (.t 103) (.k (.d (.bool true))) (.t 107), some (100, true)⟩ ::
⟨(some 109), .pick (.t 100) (.t 108) (.k (.d (.bool false))), none⟩ ::
⟨(some 2), .mv (.t 109), none⟩ :: []) (fullB 102) false)
 .ret))))
def rv : List RV := [.tmp 2]
/-! live ref05_zero: [0, 1, 2, 3, 4] -/
theorem c : cK Try.prog Try.f74.ntmps (Try.f74.body.getD .ret) = some s := by kernel_rfl
theorem b : Try.f74.body = some (Try.f74.body.getD .ret) := by kernel_rfl
theorem r : cRV Try.prog Try.f74.results.toList = some rv := by kernel_rfl
theorem ca : Callable Try.prog 74 = true := by kernel_rfl
theorem enter {args : List SV} {F : Hp} {k nk : Nat} {Q : SV → Hp → Prop} (hargs : SV.oks (fun n => decide (n < k)) args = true) (hF : F.ok (fun n => decide (n < k)) = true) (hN : args.length ≤ 110)
    (h : SW Try.prog 110 k s ⟨argE 0 args, F, k⟩ fun e st' => match e with | .normal => Fin k nk rv Q st' | .ret => Fin k nk rv Q st' | _ => False) : SB Try.prog 74 args F k nk Q :=
  SB.of_body Try.func74 b c r ca hargs hF hN h
end ref05_zero
/-! ### tranter.tranterref05.Covers -/
namespace ref05_Covers
abbrev f : Nat := 76
def s : SCo := (.seq
(.reg [⟨(some 2), .box 48 (.t 0), none⟩,
⟨(some 3), .box 44 (.t 1), none⟩,
⟨(some 4), .mv (.k (.d (.bool false))), none⟩] (fullB 3) false)
(.seq
(.reg (⟨(some 5), .fld 0 (.t 3), none⟩ ::
⟨(some 6), .load none (.t 5), none⟩ ::
⟨(some 7), .bin .lss (.t 6) (.k (.d (.int .u8 8))), none⟩ ::
⟨(some 8), .mv (.t 7), none⟩ ::
⟨(some 9), .fld 1 (.t 3), some (8, true)⟩ ::
⟨(some 10), .load none (.t 9), some (8, true)⟩ ::
⟨(some 11), .bin .geq (.t 10) (.k (.d (.int .u32 1))), some (8, true)⟩ ::
⟨(some 12), .pick (.t 8) (.t 11) (.k (.d (.bool false))), none⟩ ::
⟨(some 13), .mv (.t 12), none⟩ ::
⟨(some 14), .fld 0 (.t 3), some (13, true)⟩ ::
⟨(some 15), .load none (.t 14), some (13, true)⟩ ::
⟨(some 16), .fld 2 (.t 2), some (13, true)⟩ ::
⟨(some 17), .idxA 8 1 (.t 16) (.t 15), some (13, true)⟩ ::
⟨(some 18), .load none (.t 17), some (13, true)⟩ ::
⟨(some 19), .fld 1 (.t 3), some (13, true)⟩ ::
⟨(some 20), .load none (.t 19), some (13, true)⟩ ::
⟨(some 21), .bin .geq (.t 18) (.t 20), some (13, true)⟩ ::
⟨(some 22), .pick (.t 13) (.t 21) (.k (.d (.bool false))), none⟩ ::
⟨(some 4), .mv (.t 22), none⟩ :: []) (0 ::
1 ::
3 ::
7 ::
15 ::
31 ::
63 ::
127 ::
255 ::
511 ::
1023 ::
511 ::
4095 ::
8191 ::
511 ::
16895 ::
65535 ::
131071 ::
262143 :: []) true)
.ret))
def rv : List RV := [.tmp 4]
/-! live ref05_Covers: [0, 1, 2, 3, 4] -/
theorem c : cK Try.prog Try.f76.ntmps (Try.f76.body.getD .ret) = some s := by kernel_rfl
theorem b : Try.f76.body = some (Try.f76.body.getD .ret) := by kernel_rfl
theorem r : cRV Try.prog Try.f76.results.toList = some rv := by kernel_rfl
theorem ca : Callable Try.prog 76 = true := by kernel_rfl
theorem enter {args : List SV} {F : Hp} {k nk : Nat} {Q : SV → Hp → Prop} (hargs : SV.oks (fun n => decide (n < k)) args = true) (hF : F.ok (fun n => decide (n < k)) = true) (hN : args.length ≤ 23)
    (h : SW Try.prog 23 k s ⟨argE 0 args, F, k⟩ fun e st' => match e with | .normal => Fin k nk rv Q st' | .ret => Fin k nk rv Q st' | _ => False) : SB Try.prog 76 args F k nk Q :=
  SB.of_body Try.func76 b c r ca hargs hF hN h
end ref05_Covers
/-! ### tranter.tranterref05.lines -/
namespace ref05_lines
abbrev f : Nat := 78
def s : SCo := (.seq
(.reg [⟨(some 1), .box 48 (.t 0), none⟩,
⟨(some 2), .mv (.k (.d (.bool false))), none⟩] (fullB 2) false)
(.seq
(.seq
(.reg [⟨(some 5), .fld 28 (.t 1), none⟩,
⟨(some 6), .load none (.t 5), none⟩,
⟨(some 7), .len (.t 6), none⟩,
⟨(some 8), .bin .lss (.t 7) (.k (.d (.int .i64 1))), none⟩,
⟨(some 9), .mv (.t 8), none⟩,
⟨(some 10), .fld 28 (.t 1), some (9, false)⟩,
⟨(some 11), .load none (.t 10), some (9, false)⟩,
⟨(some 12), .len (.t 11), some (9, false)⟩,
⟨(some 13), .bin .gtr (.t 12) (.k (.d (.int .i64 16))), some (9, false)⟩,
⟨(some 14), .pick (.t 9) (.k (.d (.bool true))) (.t 13), none⟩] (fullB 10) false)
(.cond (.t 14)
 (.seq
 (.reg [⟨(some 2), .mv (.k (.d (.bool false))), none⟩] (fullB 1) false)
 .ret)
 .skip))
(.seq
(.seq
 (.reg [⟨(some 3), .mv (.k (.d (.int .i64 0))), none⟩] (fullB 1) false)
 (.block 0
 (.loop
 (.seq
 (.seq
  (.reg [⟨(some 15), .mv (.t 3), none⟩,
⟨(some 16), .fld 28 (.t 1), none⟩,
⟨(some 17), .load none (.t 16), none⟩,
⟨(some 18), .len (.t 17), none⟩,
⟨(some 19), .bin .lss (.t 15) (.t 18), none⟩] (fullB 5) false)
  (.cond (.t 19)
  .skip
  (.exit 0)))
 (.seq
  (.block 1
  (.seq
  (.seq
  (.reg (⟨(some 22), .load (some 29) (.t 1), none⟩ ::
⟨(some 23), .fld 28 (.t 1), none⟩ ::
⟨(some 24), .load none (.t 23), none⟩ ::
⟨(some 25), .mv (.t 3), none⟩ ::
⟨(some 26), .idxS 4 (.t 24) (.t 25), none⟩ ::
⟨(some 27), .fld 0 (.t 26), none⟩ ::
⟨(some 28), .load (some 2) (.t 27), none⟩ ::
⟨(some 29), .call (.k (.fn (.func 76) [] [])) [(.t 22), (.t 28)], none⟩ ::
⟨(some 30), .not (.t 29), none⟩ ::
⟨(some 31), .mv (.t 30), none⟩ ::
⟨(some 32), .load (some 29) (.t 1), some (31, false)⟩ ::
⟨(some 33), .fld 28 (.t 1), some (31, false)⟩ ::
⟨(some 34), .load none (.t 33), some (31, false)⟩ ::
⟨(some 35), .mv (.t 3), some (31, false)⟩ ::
⟨(some 36), .idxS 4 (.t 34) (.t 35), some (31, false)⟩ ::
⟨(some 37), .fld 2 (.t 36), some (31, false)⟩ ::
⟨(some 38), .load (some 2) (.t 37), some (31, false)⟩ ::
⟨(some 39), .call (.k (.fn (.func 76) [] [])) [(.t 32), (.t 38)], some (31, false)⟩ ::
⟨(some 40), .not (.t 39), some (31, false)⟩ ::
⟨(some 41), .pick (.t 31) (.k (.d (.bool true))) (.t 40), none⟩ :: []) (0 ::
0 ::
2 ::
0 ::
14 ::
30 ::
62 ::
127 ::
255 ::
511 ::
1023 ::
1023 ::
3071 ::
1023 ::
15359 ::
31743 ::
64511 ::
131071 ::
262143 ::
524287 :: []) true)
  (.cond (.t 41)
   (.seq
   (.reg [⟨(some 2), .mv (.k (.d (.bool false))), none⟩] (fullB 1) false)
   .ret)
   .skip))
  (.seq
  (.reg [⟨(some 4), .mv (.k (.d (.int .i64 0))), none⟩] (fullB 1) false)
  (.block 2
   (.loop
   (.seq
   (.seq
   (.reg [⟨(some 42), .mv (.t 4), none⟩,
⟨(some 43), .mv (.t 3), none⟩,
⟨(some 44), .bin .lss (.t 42) (.t 43), none⟩] (fullB 3) false)
   (.cond (.t 44)
    .skip
    (.exit 2)))
   (.seq
   (.block 3
    (.seq
    (.reg [⟨(some 47), .fld 28 (.t 1), none⟩,
⟨(some 48), .load none (.t 47), none⟩,
⟨(some 49), .mv (.t 4), none⟩,
⟨(some 50), .idxS 4 (.t 48) (.t 49), none⟩,
⟨(some 51), .fld 0 (.t 50), none⟩,
⟨(some 52), .load (some 2) (.t 51), none⟩,
⟨(some 53), .fld 28 (.t 1), none⟩,
⟨(some 54), .load none (.t 53), none⟩,
⟨(some 55), .mv (.t 3), none⟩,
⟨(some 56), .idxS 4 (.t 54) (.t 55), none⟩,
⟨(some 57), .fld 0 (.t 56), none⟩,
⟨(some 58), .load (some 2) (.t 57), none⟩,
⟨(some 59), .eqv false [true, true] (.t 52) (.t 58), none⟩] [0,
1,
0,
7,
15,
31,
0,
64,
0,
448,
960,
1984,
4095] true)
    (.cond (.t 59)
    (.seq
    (.reg [⟨(some 2), .mv (.k (.d (.bool false))), none⟩] (fullB 1) false)
    .ret)
    .skip)))
   (.reg [⟨(some 45), .mv (.t 4), none⟩,
⟨(some 46), .bin .add (.t 45) (.k (.d (.int .i64 1))), none⟩,
⟨(some 4), .mv (.t 46), none⟩] (fullB 3) false))))))))
  (.reg [⟨(some 20), .mv (.t 3), none⟩,
⟨(some 21), .bin .add (.t 20) (.k (.d (.int .i64 1))), none⟩,
⟨(some 3), .mv (.t 21), none⟩] (fullB 3) false))))))
(.seq
 (.reg [⟨(some 2), .mv (.k (.d (.bool true))), none⟩] (fullB 1) false)
 .ret))))
def rv : List RV := [.tmp 2]
/-! live ref05_lines: [0, 1, 2, 3, 4, 14, 19, 41, 44, 59] -/
theorem c : cK Try.prog Try.f78.ntmps (Try.f78.body.getD .ret) = some s := by kernel_rfl
theorem b : Try.f78.body = some (Try.f78.body.getD .ret) := by kernel_rfl
theorem r : cRV Try.prog Try.f78.results.toList = some rv := by kernel_rfl
theorem ca : Callable Try.prog 78 = true := by kernel_rfl
theorem enter {args : List SV} {F : Hp} {k nk : Nat} {Q : SV → Hp → Prop} (hargs : SV.oks (fun n => decide (n < k)) args = true) (hF : F.ok (fun n => decide (n < k)) = true) (hN : args.length ≤ 60)
    (h : SW Try.prog 60 k s ⟨argE 0 args, F, k⟩ fun e st' => match e with | .normal => Fin k nk rv Q st' | .ret => Fin k nk rv Q st' | _ => False) : SB Try.prog 78 args F k nk Q :=
  SB.of_body Try.func78 b c r ca hargs hF hN h
end ref05_lines
/-! ### tranter.tranterref10.there -/
namespace ref10_there
abbrev f : Nat := 79
def s : SCo := (.seq
(.reg [⟨(some 3), .box 44 (.t 1), none⟩,
⟨(some 4), .mv (.k (.d (.int .i64 0))), none⟩] (fullB 2) false)
(.seq
(.reg [⟨(some 5), .mv (.k (.d (.int .i64 0))), none⟩] (fullB 1) false)
(.seq
(.seq
 (.reg [⟨(some 6), .mv (.k (.d (.int .i64 0))), none⟩] (fullB 1) false)
 (.block 0
 (.loop
 (.seq
 (.seq
  (.reg [⟨(some 7), .mv (.t 6), none⟩,
⟨(some 8), .mv (.t 0), none⟩,
⟨(some 9), .len (.t 8), none⟩,
⟨(some 10), .bin .lss (.t 7) (.t 9), none⟩] (fullB 4) false)
  (.cond (.t 10)
  .skip
  (.exit 0)))
 (.seq
  (.block 1
  (.seq
  (.reg [⟨(some 13), .mv (.t 0), none⟩,
⟨(some 14), .mv (.t 6), none⟩,
⟨(some 15), .idxS 29 (.t 13) (.t 14), none⟩,
⟨(some 16), .fld 0 (.t 15), none⟩,
⟨(some 17), .load (some 2) (.t 16), none⟩,
⟨(some 18), .load (some 2) (.t 3), none⟩,
⟨(some 19), .eqv false [true, true] (.t 17) (.t 18), none⟩] [0,
0,
3,
7,
15,
0,
63] true)
  (.cond (.t 19)
  (.reg [⟨(some 20), .mv (.t 5), none⟩,
⟨(some 21), .bin .add (.t 20) (.k (.d (.int .i64 1))), none⟩,
⟨(some 5), .mv (.t 21), none⟩] (fullB 3) false)
  .skip)))
  (.reg [⟨(some 11), .mv (.t 6), none⟩,
⟨(some 12), .bin .add (.t 11) (.k (.d (.int .i64 1))), none⟩,
⟨(some 6), .mv (.t 12), none⟩] (fullB 3) false))))))
(.seq
 (.reg [⟨(some 22), .mv (.t 5), none⟩,
⟨(some 4), .mv (.t 22), none⟩] (fullB 2) false)
 .ret))))
def rv : List RV := [.tmp 4]
/-! live ref10_there: [0, 1, 3, 4, 5, 6, 10, 19] -/
theorem c : cK Try.prog Try.f79.ntmps (Try.f79.body.getD .ret) = some s := by kernel_rfl
theorem b : Try.f79.body = some (Try.f79.body.getD .ret) := by kernel_rfl
theorem r : cRV Try.prog Try.f79.results.toList = some rv := by kernel_rfl
theorem ca : Callable Try.prog 79 = true := by kernel_rfl
theorem enter {args : List SV} {F : Hp} {k nk : Nat} {Q : SV → Hp → Prop} (hargs : SV.oks (fun n => decide (n < k)) args = true) (hF : F.ok (fun n => decide (n < k)) = true) (hN : args.length ≤ 23)
    (h : SW Try.prog 23 k s ⟨argE 0 args, F, k⟩ fun e st' => match e with | .normal => Fin k nk rv Q st' | .ret => Fin k nk rv Q st' | _ => False) : SB Try.prog 79 args F k nk Q :=
  SB.of_body Try.func79 b c r ca hargs hF hN h
end ref10_there
/-! ### tranter.tranterref10.Before -/
namespace ref10_Before
abbrev f : Nat := 80
def s : SCo := (.seq
(.reg [⟨(some 2), .box 48 (.t 0), none⟩,
⟨(some 3), .box 48 (.t 1), none⟩,
⟨(some 4), .mv (.k (.d (.bool false))), none⟩] (fullB 3) false)
(.seq
(.reg [⟨(some 5), .fld 2 (.t 3), none⟩,
⟨(some 6), .load (some 8) (.t 5), none⟩,
⟨(some 7), .fld 0 (.t 2), none⟩,
⟨(some 8), .load (some 2) (.t 7), none⟩,
⟨(some 9), .call (.k (.fn (.func 22) [] [])) [(.t 6), (.t 8)], none⟩,
⟨(some 4), .mv (.t 9), none⟩] (fullB 6) false)
.ret))
def rv : List RV := [.tmp 4]
/-! live ref10_Before: [0, 1, 2, 3, 4] -/
theorem c : cK Try.prog Try.f80.ntmps (Try.f80.body.getD .ret) = some s := by kernel_rfl
theorem b : Try.f80.body = some (Try.f80.body.getD .ret) := by kernel_rfl
theorem r : cRV Try.prog Try.f80.results.toList = some rv := by kernel_rfl
theorem ca : Callable Try.prog 80 = true := by kernel_rfl
theorem enter {args : List SV} {F : Hp} {k nk : Nat} {Q : SV → Hp → Prop} (hargs : SV.oks (fun n => decide (n < k)) args = true) (hF : F.ok (fun n => decide (n < k)) = true) (hN : args.length ≤ 10)
    (h : SW Try.prog 10 k s ⟨argE 0 args, F, k⟩ fun e st' => match e with | .normal => Fin k nk rv Q st' | .ret => Fin k nk rv Q st' | _ => False) : SB Try.prog 80 args F k nk Q :=
  SB.of_body Try.func80 b c r ca hargs hF hN h
end ref10_Before
/-! ### tranter.vector.each$1 -/
namespace vector_each_1
abbrev f : Nat := 81
def s : SCo := (.seq
(.reg [⟨(some 3), .box 25 (.t 0), none⟩,
⟨(some 4), .box 25 (.t 1), none⟩,
⟨(some 5), .alloc 25 [(.d (.int .u32 0)), (.d (.int .u32 0)), (.d (.int .u32 0)), (.d (.int .u32 0)), (.d (.int .u32 0)), (.d (.int .u32 0)), (.d (.int .u32 0)), (.d (.int .u32 0))], none⟩] (fullB 3) false)
(.seq
(.seq
(.reg [⟨(some 7), .mv (.k (.d (.int .i64 0))), none⟩] (fullB 1) false)
(.block 0
 (.loop
 (.seq
 (.reg [⟨(some 8), .bin .lss (.t 7) (.k (.d (.int .i64 8))), none⟩] (fullB 1) false)
 (.seq
 (.cond (.t 8)
  .skip
  (.exit 0))
 (.seq
  (.block 1
  (.seq
  (.reg [⟨(some 9), .mv (.t 7), none⟩,
⟨(some 6), .mv (.t 9), none⟩] (fullB 2) false)
  (.reg [⟨(some 10), .mv (.t 6), none⟩,
⟨(some 11), .load none (.t 2), none⟩,
⟨(some 12), .mv (.t 6), none⟩,
⟨(some 13), .idxA 8 1 (.t 3) (.t 12), none⟩,
⟨(some 14), .load none (.t 13), none⟩,
⟨(some 15), .mv (.t 6), none⟩,
⟨(some 16), .idxA 8 1 (.t 4) (.t 15), none⟩,
⟨(some 17), .load none (.t 16), none⟩,
⟨(some 18), .call (.t 11) [(.t 14), (.t 17)], none⟩,
⟨(some 19), .idxA 8 1 (.t 5) (.t 10), none⟩,
⟨none, .store 1 (.t 19) (.t 18), none⟩] [0,
0,
0,
4,
12,
0,
32,
96,
254,
511,
1023] true)))
  (.reg [⟨(some 20), .bin .add (.t 7) (.k (.d (.int .i64 1))), none⟩,
⟨(some 7), .mv (.t 20), none⟩] (fullB 2) false)))))))
(.seq
(.reg [⟨(some 21), .load (some 8) (.t 5), none⟩,
⟨none, .store 8 (.t 5) (.t 21), none⟩] (fullB 2) false)
.ret)))
def rv : List RV := [.cell 5 (some 8)]
/-! live vector_each_1: [0, 1, 2, 3, 4, 5, 6, 7, 8] -/
theorem c : cK Try.prog Try.f81.ntmps (Try.f81.body.getD .ret) = some s := by kernel_rfl
theorem b : Try.f81.body = some (Try.f81.body.getD .ret) := by kernel_rfl
theorem r : cRV Try.prog Try.f81.results.toList = some rv := by kernel_rfl
theorem ca : Callable Try.prog 81 = true := by kernel_rfl
theorem enter {args : List SV} {F : Hp} {k nk : Nat} {Q : SV → Hp → Prop} (hargs : SV.oks (fun n => decide (n < k)) args = true) (hF : F.ok (fun n => decide (n < k)) = true) (hN : args.length ≤ 22)
    (h : SW Try.prog 22 k s ⟨argE 0 args, F, k⟩ fun e st' => match e with | .normal => Fin k nk rv Q st' | .ret => Fin k nk rv Q st' | _ => False) : SB Try.prog 81 args F k nk Q :=
  SB.of_body Try.func81 b c r ca hargs hF hN h
end vector_each_1
/-! ### slices.IndexFunc[[]tranter.api.Vector,tranter.api.Vector] -/
namespace slices_IndexFunc_Lapi_Vector_api_Vector
abbrev f : Nat := 82
def s : SCo := (.seq
(.reg [⟨(some 4), .mv (.k (.d (.int .i64 0))), none⟩] (fullB 1) false)
(.seq
(.seq
(.reg [⟨(some 6), .mv (.t 0), none⟩,
⟨(some 7), .len (.t 6), none⟩,
⟨(some 8), .mv (.k (.d (.int .i64 0))), none⟩] (fullB 3) false)
(.block 0
 (.loop
 (.seq
 (.reg [⟨(some 9), .bin .lss (.t 8) (.t 7), none⟩] (fullB 1) false)
 (.seq
 (.cond (.t 9)
  .skip
  (.exit 0))
 (.seq
  (.block 1
  (.seq
  (.reg [⟨(some 10), .mv (.t 8), none⟩,
⟨(some 5), .mv (.t 10), none⟩] (fullB 2) false)
  (.seq
  (.reg [⟨(some 11), .mv (.t 1), none⟩,
⟨(some 12), .mv (.t 0), none⟩,
⟨(some 13), .mv (.t 5), none⟩,
⟨(some 14), .idxS 8 (.t 12) (.t 13), none⟩,
⟨(some 15), .load (some 8) (.t 14), none⟩,
⟨(some 16), .call (.t 11) [(.t 15)], none⟩] (fullB 6) false)
  (.cond (.t 16)
   (.seq
   (.reg [⟨(some 17), .mv (.t 5), none⟩,
⟨(some 4), .mv (.t 17), none⟩] (fullB 2) false)
   .ret)
   .skip))))
  (.reg [⟨(some 18), .bin .add (.t 8) (.k (.d (.int .i64 1))), none⟩,
⟨(some 8), .mv (.t 18), none⟩] (fullB 2) false)))))))
(.seq
(.reg [⟨(some 4), .mv (.k (.d (.int .i64 (-1)))), none⟩] (fullB 1) false)
.ret)))
def rv : List RV := [.tmp 4]
/-! live slices_IndexFunc_Lapi_Vector_api_Vector: [0, 1, 4, 5, 7, 8, 9, 16] -/
theorem c : cK Try.prog Try.f82.ntmps (Try.f82.body.getD .ret) = some s := by kernel_rfl
theorem b : Try.f82.body = some (Try.f82.body.getD .ret) := by kernel_rfl
theorem r : cRV Try.prog Try.f82.results.toList = some rv := by kernel_rfl
theorem ca : Callable Try.prog 82 = true := by kernel_rfl
theorem enter {args : List SV} {F : Hp} {k nk : Nat} {Q : SV → Hp → Prop} (hargs : SV.oks (fun n => decide (n < k)) args = true) (hF : F.ok (fun n => decide (n < k)) = true) (hN : args.length ≤ 19)
    (h : SW Try.prog 19 k s ⟨argE 0 args, F, k⟩ fun e st' => match e with | .normal => Fin k nk rv Q st' | .ret => Fin k nk rv Q st' | _ => False) : SB Try.prog 82 args F k nk Q :=
  SB.of_body Try.func82 b c r ca hargs hF hN h
end slices_IndexFunc_Lapi_Vector_api_Vector
/-! ### tranter.tranterref12.May -/
namespace ref12_May
abbrev f : Nat := 84
def s : SCo := (.seq
(.reg [⟨(some 2), .box 81 (.t 0), none⟩,
⟨(some 3), .box 25 (.t 1), none⟩,
⟨(some 4), .mv (.k (.d (.bool false))), none⟩] (fullB 3) false)
(.seq
(.seq
(.reg [⟨(some 6), .fld 0 (.t 2), none⟩,
⟨(some 7), .load none (.t 6), none⟩,
⟨(some 5), .mv (.t 7), none⟩] (fullB 3) false)
(.block 0
 (.loop
 (.seq
 (.seq
 (.reg [⟨(some 8), .mv (.t 5), none⟩,
⟨(some 9), .bin .lss (.t 8) (.k (.d (.int .i64 8))), none⟩] (fullB 2) false)
 (.cond (.t 9)
  .skip
  (.exit 0)))
 (.seq
 (.block 1
  (.seq
  (.reg [⟨(some 12), .mv (.t 5), none⟩,
⟨(some 13), .idxA 8 1 (.t 3) (.t 12), none⟩,
⟨(some 14), .load none (.t 13), none⟩,
⟨(some 15), .bin .neq (.t 14) (.k (.d (.int .u32 0))), none⟩] (fullB 4) false)
  (.cond (.t 15)
  (.seq
  (.reg [⟨(some 4), .mv (.k (.d (.bool false))), none⟩] (fullB 1) false)
  .ret)
  .skip)))
 (.reg [⟨(some 10), .mv (.t 5), none⟩,
⟨(some 11), .bin .add (.t 10) (.k (.d (.int .i64 1))), none⟩,
⟨(some 5), .mv (.t 11), none⟩] (fullB 3) false))))))
(.seq
(.reg [⟨(some 4), .mv (.k (.d (.bool true))), none⟩] (fullB 1) false)
.ret)))
def rv : List RV := [.tmp 4]
/-! live ref12_May: [0, 1, 2, 3, 4, 5, 9, 15] -/
theorem c : cK Try.prog Try.f84.ntmps (Try.f84.body.getD .ret) = some s := by kernel_rfl
theorem b : Try.f84.body = some (Try.f84.body.getD .ret) := by kernel_rfl
theorem r : cRV Try.prog Try.f84.results.toList = some rv := by kernel_rfl
theorem ca : Callable Try.prog 84 = true := by kernel_rfl
theorem enter {args : List SV} {F : Hp} {k nk : Nat} {Q : SV → Hp → Prop} (hargs : SV.oks (fun n => decide (n < k)) args = true) (hF : F.ok (fun n => decide (n < k)) = true) (hN : args.length ≤ 16)
    (h : SW Try.prog 16 k s ⟨argE 0 args, F, k⟩ fun e st' => match e with | .normal => Fin k nk rv Q st' | .ret => Fin k nk rv Q st' | _ => False) : SB Try.prog 84 args F k nk Q :=
  SB.of_body Try.func84 b c r ca hargs hF hN h
end ref12_May
end Go.Proofs.Ytdnjkeeiopcipaa
