/- Functions of the program, worked out ahead (printed by a program; each is checked against the program by the kernel). -/
import Derived.Test.YthcaepnclhgkmaaDoorILBase
set_option linter.unusedSimpArgs false
namespace Go.Proofs.YthcaepnclhgkmaaDoor
open Go Go.Abs
set_option maxRecDepth 100000
set_option linter.unusedVariables false

theorem eqT34 {a0 b0 : Int} {a1 b1 : Int} {a2 b2 : Int} {a3 b3 : Int} : aEq Tryd.prog 34 (.t (.agg [.sc (.int .i64 a0), .sc (.int .i64 a1), .sc (.int .i64 a2), .sc (.int .i64 a3)])) (.t (.agg [.sc (.int .i64 b0), .sc (.int .i64 b1), .sc (.int .i64 b2), .sc (.int .i64 b3)])) = some (decide (a0 = b0 ∧ a1 = b1 ∧ a2 = b2 ∧ a3 = b3)) :=
  (show aEq Tryd.prog 34 (.t (.agg [.sc (.int .i64 a0), .sc (.int .i64 a1), .sc (.int .i64 a2), .sc (.int .i64 a3)])) (.t (.agg [.sc (.int .i64 b0), .sc (.int .i64 b1), .sc (.int .i64 b2), .sc (.int .i64 b3)])) = some ((a0 == b0) && ((a1 == b1) && ((a2 == b2) && ((a3 == b3) && true)))) by kernel_rfl).trans (by congr 1; rw [Bool.eq_iff_iff]; simp [and_assoc])

theorem eqT22 : isSliceT Tryd.prog 22 = true := by kernel_rfl

theorem eqT23 : isSliceT Tryd.prog 23 = true := by kernel_rfl

noncomputable def il5l0b : C :=
  .seq (.ops ([
  ⟨some 119, none, none, .objs [], .bin .lss false (.v 118) (.v 117)⟩])) <|
  .seq (.cond (.v 119) (.nop) (.exit 2)) <|
  .seq (.block 3 (.seq (.ops ([
    ⟨some 120, none, none, .objs [], .mv (.v 118)⟩,
    ⟨some 121, none, none, .objs [], .iaS 4 (.v 116) (.v 118)⟩,
    ⟨some 122, none, none, .objs [], .ld true 4 (.v 121)⟩,
    ⟨some 18, none, none, .objs [], .nw 4 (.agg [(.sc (.int .i64 0)), (.sc (.int .i64 0)), (.sc (.int .i64 0)), (.sc (.int .i64 0))])⟩,
    ⟨some 17, none, none, .objs [], .mv (.v 120)⟩,
    ⟨none, none, none, .objs [], .st 4 (.v 18) (.v 122)⟩])) <|
    .seq (.seq (.ops ([
    ⟨some 123, none, none, .objs [], .fa 1 (.v 18)⟩,
    ⟨some 124, none, none, .objs [], .ld false 1 (.v 123)⟩,
    ⟨some 125, none, none, .objs [], .fa 1 (.v 13)⟩,
    ⟨some 126, none, none, .objs [], .ld false 1 (.v 125)⟩,
    ⟨some 127, none, none, .objs [], .bin .neq false (.v 124) (.v 126)⟩])) <|
    .cond (.v 127) (.exit 3) (.nop)) <|
    .seq (.ops ([
    ⟨some 128, none, none, .objs [], .fa 2 (.v 18)⟩,
    ⟨some 129, none, none, .objs [], .ld false 1 (.v 128)⟩] ++ mkL [7, 8, 9, 12, 13, 14, 15, 16, 17, 18, 93, 94, 95, 116, 117, 118, 129] ([
    ⟨some 130, none, none, .objs [], .fa 2 (.v 13)⟩,
    ⟨some 131, none, none, .objs [], .ld false 1 (.v 130)⟩,
    ⟨some 132, none, none, .objs [], .bin .eql false (.v 129) (.v 131)⟩]))) <|
    .cond (.v 132) (.seq (.seq (.ops ([
      ⟨some 133, none, none, .objs [], .fa 0 (.v 18)⟩,
      ⟨some 134, none, none, .objs [], .ld false 1 (.v 133)⟩,
      ⟨some 135, none, none, .objs [], .fa 0 (.v 13)⟩,
      ⟨some 136, none, none, .objs [], .ld false 1 (.v 135)⟩,
      ⟨some 137, none, none, .objs [], .bin .eql false (.v 134) (.v 136)⟩,
      ⟨some 138, none, none, .objs [], .mv (.v 137)⟩,
      ⟨some 139, some (138, true), none, .objs [], .mv (.v 17)⟩,
      ⟨some 140, some (138, true), none, .objs [], .mv (.v 12)⟩,
      ⟨some 141, some (138, true), none, .objs [], .bin .neq false (.v 139) (.v 140)⟩,
      ⟨some 142, none, none, .objs [], .pk (.v 138) (.v 141) (.c (.sc (.bool false)))⟩])) <|
      .cond (.v 142) (.seq (.ops ([
        ⟨some 6, none, none, .objs [], .mv (.c (.sc (.bool false)))⟩])) <|
        .ret) (.nop)) <| mkC [7, 8, 9, 12, 13, 14, 15, 16, 17, 18, 93, 94, 95, 116, 117, 118] <|
      .seq (.seq (.ops ([
      ⟨some 143, none, none, .objs [], .fa 0 (.v 18)⟩,
      ⟨some 144, none, none, .objs [], .ld false 1 (.v 143)⟩,
      ⟨some 145, none, none, .objs [], .fa 0 (.v 13)⟩,
      ⟨some 146, none, none, .objs [], .ld false 1 (.v 145)⟩,
      ⟨some 147, none, none, .objs [], .bin .neq false (.v 144) (.v 146)⟩,
      ⟨some 148, none, none, .objs [], .mv (.v 147)⟩,
      ⟨some 149, some (148, true), none, .objs [], .mv (.v 17)⟩,
      ⟨some 150, some (148, true), none, .objs [], .mv (.v 12)⟩,
      ⟨some 151, some (148, true), none, .objs [], .bin .lss false (.v 149) (.v 150)⟩,
      ⟨some 152, none, none, .objs [], .pk (.v 148) (.v 151) (.c (.sc (.bool false)))⟩])) <|
      .cond (.v 152) (.ops ([
        ⟨some 153, none, none, .objs [], .mv (.v 15)⟩,
        ⟨some 154, none, none, .objs [], .bin .add false (.v 153) (.c (.sc (.int .i64 1)))⟩,
        ⟨some 15, none, none, .objs [], .mv (.v 154)⟩])) (.nop)) <|
      .seq (.seq (.ops ([
      ⟨some 155, none, none, .objs [], .fa 0 (.v 18)⟩] ++ mkL [7, 8, 9, 12, 13, 14, 15, 16, 17, 18, 93, 94, 95, 116, 117, 118, 155] ([
      ⟨some 156, none, none, .objs [], .ld false 1 (.v 155)⟩,
      ⟨some 157, none, none, .objs [], .fa 0 (.v 13)⟩,
      ⟨some 158, none, none, .objs [], .ld false 1 (.v 157)⟩,
      ⟨some 159, none, none, .objs [], .bin .neq false (.v 156) (.v 158)⟩,
      ⟨some 160, none, none, .objs [], .mv (.v 159)⟩,
      ⟨some 161, some (160, true), none, .objs [], .mv (.v 17)⟩,
      ⟨some 162, some (160, true), none, .objs [], .mv (.v 12)⟩,
      ⟨some 163, some (160, true), none, .objs [], .bin .gtr false (.v 161) (.v 162)⟩,
      ⟨some 164, none, none, .objs [], .pk (.v 160) (.v 163) (.c (.sc (.bool false)))⟩]))) <|
      .cond (.v 164) (.ops ([
        ⟨some 165, none, none, .objs [], .mv (.v 16)⟩,
        ⟨some 166, none, none, .objs [], .bin .add false (.v 165) (.c (.sc (.int .i64 1)))⟩,
        ⟨some 16, none, none, .objs [], .mv (.v 166)⟩])) (.nop)) <|
      .seq (.ops ([
      ⟨some 167, none, none, .objs [], .fa 0 (.v 13)⟩,
      ⟨some 168, none, none, .objs [], .ld false 1 (.v 167)⟩] ++ mkL [7, 8, 9, 12, 13, 14, 15, 16, 18, 93, 94, 95, 116, 117, 118, 168] ([
      ⟨some 169, none, none, .objs [], .bin .eql false (.v 168) (.c (.sc (.int .i64 2)))⟩,
      ⟨some 170, none, none, .objs [], .mv (.v 169)⟩,
      ⟨some 171, some (170, true), none, .objs [], .fa 0 (.v 18)⟩,
      ⟨some 172, some (170, true), none, .objs [], .ld false 1 (.v 171)⟩,
      ⟨some 173, some (170, true), none, .objs [], .bin .eql false (.v 172) (.c (.sc (.int .i64 1)))⟩,
      ⟨some 174, none, none, .objs [], .pk (.v 170) (.v 173) (.c (.sc (.bool false)))⟩,
      ⟨some 175, none, none, .objs [], .mv (.v 174)⟩,
      ⟨some 176, some (175, true), none, .objs [], .fa 3 (.v 13)⟩,
      ⟨some 177, some (175, true), none, .objs [], .ld false 1 (.v 176)⟩,
      ⟨some 178, some (175, true), none, .objs [], .fa 3 (.v 18)⟩,
      ⟨some 179, some (175, true), none, .objs [], .ld false 1 (.v 178)⟩,
      ⟨some 180, some (175, true), none, .objs [], .bin .sub false (.v 177) (.v 179)⟩,
      ⟨some 181, some (175, true), none, .objs [], .fa 1 (.v 14)⟩,
      ⟨some 182, some (175, true), none, .objs [], .ld false 1 (.v 181)⟩] ++ mkL [7, 8, 9, 12, 13, 14, 15, 16, 18, 93, 94, 95, 116, 117, 118, 175, 180, 182] ([
      ⟨some 183, some (175, true), none, .objs [], .bin .lss false (.v 180) (.v 182)⟩,
      ⟨some 184, some (175, true), none, .objs [], .mv (.v 183)⟩,
      ⟨some 185, some (184, false), none, .objs [], .fa 3 (.v 13)⟩,
      ⟨some 186, some (184, false), none, .objs [], .ld false 1 (.v 185)⟩,
      ⟨some 187, some (184, false), none, .objs [], .fa 3 (.v 18)⟩,
      ⟨some 188, some (184, false), none, .objs [], .ld false 1 (.v 187)⟩,
      ⟨some 189, some (184, false), none, .objs [], .bin .sub false (.v 186) (.v 188)⟩,
      ⟨some 190, some (184, false), none, .objs [], .fa 2 (.v 14)⟩,
      ⟨some 191, some (184, false), none, .objs [], .ld false 1 (.v 190)⟩,
      ⟨some 192, some (184, false), none, .objs [], .bin .gtr false (.v 189) (.v 191)⟩,
      ⟨some 193, some (175, true), none, .objs [], .pk (.v 184) (.c (.sc (.bool true))) (.v 192)⟩,
      ⟨some 194, none, none, .objs [], .pk (.v 175) (.v 193) (.c (.sc (.bool false)))⟩])))) <|
      .cond (.v 194) (.seq (.ops ([
        ⟨some 6, none, none, .objs [], .mv (.c (.sc (.bool false)))⟩])) <|
        .ret) (.nop)) (.nop))) <|
  .ops ([
  ⟨some 195, none, none, .objs [], .bin .add false (.v 118) (.c (.sc (.int .i64 1)))⟩] ++ mkL [7, 8, 9, 12, 13, 14, 15, 16, 93, 94, 95, 116, 117, 195] ([
  ⟨some 118, none, none, .objs [], .mv (.v 195)⟩]))
noncomputable def il5l0 : C := il5l0b
theorem il5l0_go {P : Program} {pol : Pol} {K : Oracle} {I : Inl} {n : Nat} {f : FuncId} {R : Xit → FEnv → Heap → Prop} {e : FEnv} {h : Heap} : wc P pol K I n f il5l0 R e h = wc P pol K I n f il5l0b R e h := (fun x => x) rfl

noncomputable def il5l1b : C :=
  .seq (.ops ([
  ⟨some 96, none, none, .objs [], .bin .lss false (.v 95) (.v 94)⟩])) <|
  .seq (.cond (.v 96) (.nop) (.exit 0)) <|
  .seq (.block 1 (.seq (.ops ([
    ⟨some 97, none, none, .objs [], .mv (.v 95)⟩,
    ⟨some 98, none, none, .objs [], .iaS 4 (.v 93) (.v 95)⟩,
    ⟨some 99, none, none, .objs [], .ld true 4 (.v 98)⟩,
    ⟨some 13, none, none, .objs [], .nw 4 (.agg [(.sc (.int .i64 0)), (.sc (.int .i64 0)), (.sc (.int .i64 0)), (.sc (.int .i64 0))])⟩,
    ⟨some 12, none, none, .objs [], .mv (.v 97)⟩,
    ⟨none, none, none, .objs [], .st 4 (.v 13) (.v 99)⟩])) <|
    .seq (.seq (.ops ([
    ⟨some 100, none, none, .objs [], .fa 1 (.v 13)⟩,
    ⟨some 101, none, none, .objs [], .ld false 1 (.v 100)⟩,
    ⟨some 102, none, none, .objs [], .bin .lss false (.v 101) (.c (.sc (.int .i64 1)))⟩,
    ⟨some 103, none, none, .objs [], .mv (.v 102)⟩,
    ⟨some 104, some (103, false), none, .objs [], .fa 1 (.v 13)⟩,
    ⟨some 105, some (103, false), none, .objs [], .ld false 1 (.v 104)⟩,
    ⟨some 106, some (103, false), none, .objs [], .mv (.v 7)⟩] ++ mkL [7, 8, 9, 12, 13, 93, 94, 95, 103, 105, 106] ([
    ⟨some 107, some (103, false), none, .objs [], .lenS (.v 106)⟩,
    ⟨some 108, some (103, false), none, .objs [], .bin .gtr false (.v 105) (.v 107)⟩,
    ⟨some 109, none, none, .objs [], .pk (.v 103) (.c (.sc (.bool true))) (.v 108)⟩]))) <|
    .cond (.v 109) (.seq (.ops ([
      ⟨some 6, none, none, .objs [], .mv (.c (.sc (.bool false)))⟩])) <|
      .ret) (.nop)) <|
    .seq (.ops ([
    ⟨some 110, none, none, .objs [], .mv (.v 7)⟩,
    ⟨some 111, none, none, .objs [], .fa 1 (.v 13)⟩,
    ⟨some 112, none, none, .objs [], .ld false 1 (.v 111)⟩,
    ⟨some 113, none, none, .objs [], .bin .sub false (.v 112) (.c (.sc (.int .i64 1)))⟩,
    ⟨some 114, none, none, .objs [], .iaS 4 (.v 110) (.v 113)⟩,
    ⟨some 115, none, none, .objs [], .ld true 4 (.v 114)⟩,
    ⟨some 14, none, none, .objs [], .nw 4 (.agg [(.sc (.int .i64 0)), (.sc (.int .i64 0)), (.sc (.int .i64 0)), (.sc (.bool false))])⟩,
    ⟨none, none, none, .objs [], .st 4 (.v 14) (.v 115)⟩])) <|
    .seq (.ops ([
    ⟨some 15, none, none, .objs [], .mv (.c (.sc (.int .i64 0)))⟩,
    ⟨some 16, none, none, .objs [], .mv (.c (.sc (.int .i64 0)))⟩])) <| mkC [7, 8, 9, 12, 13, 14, 15, 16, 93, 94, 95] <|
    .seq (.seq (.ops ([
    ⟨some 116, none, none, .objs [], .mv (.v 8)⟩,
    ⟨some 117, none, none, .objs [], .lenS (.v 116)⟩,
    ⟨some 118, none, none, .objs [], .mv (.c (.sc (.int .i64 0)))⟩])) <|
    .block 2 (.loop (some [7, 8, 9, 12, 13, 14, 15, 16, 93, 94, 95, 116, 117, 118]) il5l0)) <|
    .seq (.seq (.ops ([
    ⟨some 196, none, none, .objs [], .fa 0 (.v 13)⟩,
    ⟨some 197, none, none, .objs [], .ld false 1 (.v 196)⟩,
    ⟨some 198, none, none, .objs [], .bin .eql false (.v 197) (.c (.sc (.int .i64 2)))⟩,
    ⟨some 199, none, none, .objs [], .mv (.v 198)⟩,
    ⟨some 200, some (199, true), none, .objs [], .mv (.v 15)⟩,
    ⟨some 201, some (199, true), none, .objs [], .bin .neq false (.v 200) (.c (.sc (.int .i64 1)))⟩,
    ⟨some 202, some (199, true), none, .objs [], .mv (.v 201)⟩,
    ⟨some 203, some (202, false), none, .objs [], .mv (.v 16)⟩,
    ⟨some 204, some (202, false), none, .objs [], .bin .neq false (.v 203) (.c (.sc (.int .i64 0)))⟩,
    ⟨some 205, some (199, true), none, .objs [], .pk (.v 202) (.c (.sc (.bool true))) (.v 204)⟩,
    ⟨some 206, none, none, .objs [], .pk (.v 199) (.v 205) (.c (.sc (.bool false)))⟩,
    ⟨some 207, none, none, .objs [], .mv (.v 206)⟩,
    ⟨some 208, some (207, false), none, .objs [], .fa 0 (.v 13)⟩,
    ⟨some 209, some (207, false), none, .objs [], .ld false 1 (.v 208)⟩] ++ mkL [7, 8, 9, 13, 14, 15, 16, 93, 94, 95, 207, 209] ([
    ⟨some 210, some (207, false), none, .objs [], .bin .eql false (.v 209) (.c (.sc (.int .i64 1)))⟩,
    ⟨some 211, some (207, false), none, .objs [], .mv (.v 210)⟩,
    ⟨some 212, some (211, true), none, .objs [], .mv (.v 15)⟩,
    ⟨some 213, some (211, true), none, .objs [], .bin .neq false (.v 212) (.c (.sc (.int .i64 0)))⟩,
    ⟨some 214, some (207, false), none, .objs [], .pk (.v 211) (.v 213) (.c (.sc (.bool false)))⟩,
    ⟨some 215, none, none, .objs [], .pk (.v 207) (.c (.sc (.bool true))) (.v 214)⟩]))) <|
    .cond (.v 215) (.seq (.ops ([
      ⟨some 6, none, none, .objs [], .mv (.c (.sc (.bool false)))⟩])) <|
      .ret) (.nop)) <|
    .seq (.ops ([
    ⟨some 216, none, none, .objs [], .fa 0 (.v 13)⟩,
    ⟨some 217, none, none, .objs [], .ld false 1 (.v 216)⟩,
    ⟨some 218, none, none, .objs [], .bin .eql false (.v 217) (.c (.sc (.int .i64 1)))⟩,
    ⟨some 219, none, none, .objs [], .mv (.v 218)⟩,
    ⟨some 220, some (219, true), none, .objs [], .mv (.v 16)⟩,
    ⟨some 221, some (219, true), none, .objs [], .bin .eql false (.v 220) (.c (.sc (.int .i64 0)))⟩,
    ⟨some 222, none, none, .objs [], .pk (.v 219) (.v 221) (.c (.sc (.bool false)))⟩] ++ mkL [7, 8, 9, 13, 14, 93, 94, 95, 222] ([
    ⟨some 223, none, none, .objs [], .mv (.v 222)⟩,
    ⟨some 224, some (223, true), none, .objs [], .fa 3 (.v 13)⟩,
    ⟨some 225, some (223, true), none, .objs [], .ld false 1 (.v 224)⟩,
    ⟨some 226, some (223, true), none, .objs [], .fa 2 (.v 14)⟩,
    ⟨some 227, some (223, true), none, .objs [], .ld false 1 (.v 226)⟩,
    ⟨some 228, some (223, true), none, .objs [], .bin .add false (.v 225) (.v 227)⟩,
    ⟨some 229, some (223, true), none, .objs [], .mv (.v 9)⟩,
    ⟨some 230, some (223, true), none, .objs [], .bin .leq false (.v 228) (.v 229)⟩,
    ⟨some 231, none, none, .objs [], .pk (.v 223) (.v 230) (.c (.sc (.bool false)))⟩]))) <|
    .cond (.v 231) (.seq (.ops ([
      ⟨some 6, none, none, .objs [], .mv (.c (.sc (.bool false)))⟩])) <|
      .ret) (.nop))) <|
  .ops ([
  ⟨some 232, none, none, .objs [], .bin .add false (.v 95) (.c (.sc (.int .i64 1)))⟩,
  ⟨some 95, none, none, .objs [], .mv (.v 232)⟩])
noncomputable def il5l1 : C := il5l1b
theorem il5l1_go {P : Program} {pol : Pol} {K : Oracle} {I : Inl} {n : Nat} {f : FuncId} {R : Xit → FEnv → Heap → Prop} {e : FEnv} {h : Heap} : wc P pol K I n f il5l1 R e h = wc P pol K I n f il5l1b R e h := (fun x => x) rfl

noncomputable def il5c : C :=
  .seq (.ops ([
  ⟨some 6, none, none, .objs [], .mv (.c (.sc (.bool false)))⟩])) <|
  .seq (.seq (.ops ([
  ⟨some 19, none, none, .objs [], .call (.c (.fn (.func 9) [] [])) []⟩,
  ⟨some 20, none, none, .objs [], .nt (.v 19)⟩])) <|
  .cond (.v 20) (.seq (.ops ([
    ⟨some 6, none, none, .objs [], .mv (.c (.sc (.bool false)))⟩])) <|
    .ret) (.nop)) <|
  .seq (.ops ([
  ⟨some 21, none, none, .objs [], .mv (.v 0)⟩,
  ⟨some 22, none, none, .objs [], .call (.c (.fn (.func 10) [] [])) [(.v 21)]⟩,
  ⟨some 23, none, none, .objs [], .mv (.v 1)⟩,
  ⟨some 24, none, none, .objs [], .call (.c (.fn (.func 11) [] [])) [(.v 23)]⟩,
  ⟨some 7, none, none, .objs [], .mv (.v 22)⟩,
  ⟨some 8, none, none, .objs [], .mv (.v 24)⟩])) <|
  .seq (.ops ([
  ⟨some 25, none, none, .objs [], .mv (.v 2)⟩,
  ⟨some 26, none, none, .objs [], .cv .i64 (.v 25)⟩,
  ⟨some 9, none, none, .objs [], .mv (.v 26)⟩])) <|
  .seq (.seq (.ops ([
  ⟨some 27, none, none, .objs [], .mv (.v 8)⟩] ++ mkL [7, 8, 9, 27] ([
  ⟨some 28, none, none, .objs [], .lenS (.v 27)⟩,
  ⟨some 29, none, none, .objs [], .bin .gtr false (.v 28) (.c (.sc (.int .i64 0)))⟩]))) <|
  .cond (.v 29) (.ops ([
    ⟨some 30, none, none, .objs [], .mv (.v 9)⟩,
    ⟨some 31, none, none, .objs [], .mv (.v 8)⟩,
    ⟨some 32, none, none, .objs [], .mv (.v 8)⟩,
    ⟨some 33, none, none, .objs [], .lenS (.v 32)⟩,
    ⟨some 34, none, none, .objs [], .bin .sub false (.v 33) (.c (.sc (.int .i64 1)))⟩,
    ⟨some 35, none, none, .objs [], .iaS 4 (.v 31) (.v 34)⟩,
    ⟨some 36, none, none, .objs [], .fa 3 (.v 35)⟩,
    ⟨some 37, none, none, .objs [], .ld false 1 (.v 36)⟩,
    ⟨some 38, none, none, .objs [], .bin .add false (.v 30) (.v 37)⟩,
    ⟨some 9, none, none, .objs [], .mv (.v 38)⟩])) (.nop)) <|
  .seq (.ops ([
  ⟨some 40, none, none, .objs [], .mv (.v 7)⟩,
  ⟨some 41, none, none, .objs [], .mv (.v 8)⟩] ++ mkL [7, 8, 9, 40, 41] ([
  ⟨some 42, none, none, .objs [], .mv (.v 9)⟩,
  ⟨some 43, none, none, .objs [], .call (.c (.fn (.func 12) [] [])) [(.v 40), (.v 41), (.v 42)]⟩,
  ⟨some 39, none, none, .objs [], .mv (.v 43)⟩,
  ⟨some 44, none, none, .objs [], .ex (.v 39) 0⟩,
  ⟨some 45, none, none, .objs [], .ex (.v 39) 1⟩,
  ⟨some 10, none, none, .objs [], .nw 4 (.agg [(.sc (.int .i64 0)), (.sc (.int .i64 0)), (.sc (.int .i64 0)), (.sc (.int .i64 0))])⟩,
  ⟨none, none, none, .objs [], .st 4 (.v 10) (.v 44)⟩,
  ⟨some 11, none, none, .objs [], .mv (.v 45)⟩]))) <|
  .seq (.seq (.ops ([
  ⟨some 46, none, none, .objs [], .mv (.v 11)⟩,
  ⟨some 47, none, none, .objs [], .bin .neq false (.v 46) (.c (.sc (.int .i64 0)))⟩])) <|
  .cond (.v 47) (.seq (.ops ([
    ⟨some 6, none, none, .objs [], .mv (.c (.sc (.bool false)))⟩])) <|
    .ret) (.nop)) <|
  .seq (.seq (.ops ([
  ⟨some 48, none, none, .objs [], .ld true 4 (.v 10)⟩,
  ⟨some 49, none, none, .objs [], .bd [(.sc (.int .i64 0)), (.sc (.int .i64 0)), (.sc (.int .i64 0)), (.sc (.int .i64 0))] []⟩,
  ⟨some 50, none, none, .objs [], .raw (opOf Tryd.prog 5 10 2)⟩])) <| mkC [7, 8, 9, 10, 50] <|
  .cond (.v 50) (.seq (.opsD [] ([
    ⟨some 51, none, none, .objs [], .fa 0 (.v 10)⟩,
    ⟨some 52, none, none, .objs [(.v 51)], .ld false 1 (.v 51)⟩,
    ⟨some 53, none, none, .objs [], .bin .geq false (.v 52) (.c (.sc (.int .i64 1)))⟩,
    ⟨some 54, none, none, .objs [], .mv (.v 53)⟩,
    ⟨some 55, some (54, true), none, .objs [], .fa 0 (.v 10)⟩,
    ⟨some 56, some (54, true), none, .objs [(.v 55)], .ld false 1 (.v 55)⟩,
    ⟨some 57, some (54, true), none, .objs [], .bin .leq false (.v 56) (.c (.sc (.int .i64 8)))⟩,
    ⟨some 58, none, none, .objs [], .pk (.v 54) (.v 57) (.c (.sc (.bool false)))⟩,
    ⟨some 59, none, none, .objs [], .mv (.v 58)⟩,
    ⟨some 60, some (59, true), none, .objs [], .fa 1 (.v 10)⟩,
    ⟨some 61, some (59, true), none, .objs [(.v 60)], .ld false 1 (.v 60)⟩,
    ⟨some 62, some (59, true), none, .objs [], .bin .geq false (.v 61) (.c (.sc (.int .i64 0)))⟩,
    ⟨some 63, none, none, .objs [], .pk (.v 59) (.v 62) (.c (.sc (.bool false)))⟩,
    ⟨some 64, none, none, .objs [], .mv (.v 63)⟩] ++ mkL [8, 10, 64] ([
    ⟨some 65, some (64, true), none, .objs [], .fa 1 (.v 10)⟩,
    ⟨some 66, some (64, true), none, .objs [(.v 65)], .ld false 1 (.v 65)⟩,
    ⟨some 67, some (64, true), none, .objs [], .mv (.v 8)⟩,
    ⟨some 68, some (64, true), none, .objs [(.v 67)], .lenS (.v 67)⟩,
    ⟨some 69, some (64, true), none, .objs [], .bin .lss false (.v 66) (.v 68)⟩,
    ⟨some 70, none, none, .objs [], .pk (.v 64) (.v 69) (.c (.sc (.bool false)))⟩,
    ⟨some 71, none, none, .objs [], .mv (.v 70)⟩,
    ⟨some 72, some (71, true), none, .objs [], .fa 2 (.v 10)⟩,
    ⟨some 73, some (71, true), none, .objs [(.v 72)], .ld false 1 (.v 72)⟩,
    ⟨some 74, some (71, true), none, .objs [], .mv (.v 8)⟩,
    ⟨some 75, some (71, true), none, .objs [], .fa 1 (.v 10)⟩,
    ⟨some 76, some (71, true), none, .objs [(.v 75)], .ld false 1 (.v 75)⟩,
    ⟨some 77, some (71, true), none, .objs [], .iaS 4 (.v 74) (.v 76)⟩,
    ⟨some 78, some (71, true), none, .objs [], .fa 1 (.v 77)⟩] ++ mkL [8, 10, 71, 73, 78] ([
    ⟨some 79, some (71, true), none, .objs [(.v 78)], .ld false 1 (.v 78)⟩,
    ⟨some 80, some (71, true), none, .objs [], .bin .eql false (.v 73) (.v 79)⟩,
    ⟨some 81, none, none, .objs [], .pk (.v 71) (.v 80) (.c (.sc (.bool false)))⟩,
    ⟨some 82, none, none, .objs [], .mv (.v 81)⟩,
    ⟨some 83, some (82, true), none, .objs [], .fa 3 (.v 10)⟩,
    ⟨some 84, some (82, true), none, .objs [(.v 83)], .ld false 1 (.v 83)⟩,
    ⟨some 85, some (82, true), none, .objs [], .mv (.v 8)⟩,
    ⟨some 86, some (82, true), none, .objs [], .fa 1 (.v 10)⟩,
    ⟨some 87, some (82, true), none, .objs [(.v 86)], .ld false 1 (.v 86)⟩,
    ⟨some 88, some (82, true), none, .objs [], .iaS 4 (.v 85) (.v 87)⟩,
    ⟨some 89, some (82, true), none, .objs [], .fa 2 (.v 88)⟩,
    ⟨some 90, some (82, true), none, .objs [(.v 89)], .ld false 1 (.v 89)⟩,
    ⟨some 91, some (82, true), none, .objs [], .bin .eql false (.v 84) (.v 90)⟩,
    ⟨some 92, none, none, .objs [], .pk (.v 82) (.v 91) (.c (.sc (.bool false)))⟩] ++ mkL [92] ([
    ⟨some 6, none, none, .objs [], .mv (.v 92)⟩]))))) <|
    .ret) (.nop)) <|
  .seq (.seq (.ops ([
  ⟨some 93, none, none, .objs [], .mv (.v 8)⟩,
  ⟨some 94, none, none, .objs [], .lenS (.v 93)⟩,
  ⟨some 95, none, none, .objs [], .mv (.c (.sc (.int .i64 0)))⟩])) <|
  .block 0 (.loop (some [7, 8, 9, 93, 94, 95]) il5l1)) <|
  .seq (.ops ([
  ⟨some 233, none, none, .objs [], .mv (.v 7)⟩,
  ⟨some 234, none, none, .objs [], .mv (.v 8)⟩,
  ⟨some 235, none, none, .objs [], .call (.c (.fn (.func 21) [] [])) [(.v 233), (.v 234)]⟩,
  ⟨some 6, none, none, .objs [], .mv (.v 235)⟩])) <|
  .ret

theorem il5_eq : cFn Tryd.prog pol 5 = some ⟨236, il5c, [(6, none)]⟩ := by kernel_rfl
theorem raw5_10_2 {e : FEnv} {h : Heap} : iStep Tryd.prog pol 5 e h (.raw (opOf Tryd.prog 5 10 2)) = vOf h (binE Tryd.prog true 34 (.tmp 48) (.tmp 49) (Src.get e (.v 48)) (Src.get e (.v 49))) := raw_neq (x := (.tmp 48)) (y := (.tmp 49)) (s := 34) (by kernel_rfl)

noncomputable def il10l0b : C :=
  .seq (.seq (.ops ([
  ⟨some 5, none, none, .objs [], .mv (.v 4)⟩,
  ⟨some 6, none, none, .objs [], .mv (.v 0)⟩,
  ⟨some 7, none, none, .objs [], .lenS (.v 6)⟩,
  ⟨some 8, none, none, .objs [], .bin .lss false (.v 5) (.v 7)⟩,
  ⟨some 9, none, none, .objs [], .mv (.v 8)⟩,
  ⟨some 10, some (9, true), none, .objs [], .mv (.v 4)⟩,
  ⟨some 11, some (9, true), none, .objs [], .bin .lss false (.v 10) (.c (.sc (.int .i64 12)))⟩,
  ⟨some 12, none, none, .objs [], .pk (.v 9) (.v 11) (.c (.sc (.bool false)))⟩])) <|
  .cond (.v 12) (.nop) (.exit 0)) <|
  .seq (.block 1 (.opsD [] ([
    ⟨some 15, none, none, .objs [], .mv (.v 3)⟩,
    ⟨some 16, none, none, .objs [], .mv (.v 4)⟩,
    ⟨some 17, none, none, .objs [], .bin .add false (.v 16) (.c (.sc (.int .i64 1)))⟩,
    ⟨some 18, none, none, .objs [], .mv (.v 0)⟩,
    ⟨some 19, none, none, .objs [], .mv (.v 4)⟩,
    ⟨some 20, none, none, .objs [], .iaS 3 (.v 18) (.v 19)⟩] ++ mkL [0, 4, 15, 17, 20] ([
    ⟨some 21, none, none, .objs [], .fa 0 (.v 20)⟩,
    ⟨some 22, none, none, .objs [(.v 21)], .ld false 1 (.v 21)⟩,
    ⟨some 23, none, none, .objs [], .cv .i64 (.v 22)⟩,
    ⟨some 24, none, none, .objs [], .mv (.v 0)⟩,
    ⟨some 25, none, none, .objs [], .mv (.v 4)⟩,
    ⟨some 26, none, none, .objs [], .iaS 3 (.v 24) (.v 25)⟩,
    ⟨some 27, none, none, .objs [], .fa 0 (.v 26)⟩,
    ⟨some 28, none, none, .objs [(.v 27)], .ld false 1 (.v 27)⟩,
    ⟨some 29, none, none, .objs [], .cv .i64 (.v 28)⟩,
    ⟨some 30, none, none, .objs [], .mv (.v 0)⟩,
    ⟨some 31, none, none, .objs [], .mv (.v 4)⟩,
    ⟨some 32, none, none, .objs [], .iaS 3 (.v 30) (.v 31)⟩,
    ⟨some 33, none, none, .objs [], .fa 1 (.v 32)⟩,
    ⟨some 34, none, none, .objs [(.v 33)], .ld false 1 (.v 33)⟩] ++ mkL [0, 4, 15, 17, 23, 29, 34] ([
    ⟨some 35, none, none, .objs [], .cv .i64 (.v 34)⟩,
    ⟨some 36, none, none, .objs [], .bin .add false (.v 29) (.v 35)⟩,
    ⟨some 37, none, none, .objs [], .mv (.v 0)⟩,
    ⟨some 38, none, none, .objs [], .mv (.v 4)⟩,
    ⟨some 39, none, none, .objs [], .iaS 3 (.v 37) (.v 38)⟩,
    ⟨some 40, none, none, .objs [], .fa 2 (.v 39)⟩,
    ⟨some 41, none, none, .objs [(.v 40)], .ld false 1 (.v 40)⟩,
    ⟨some 42, none, none, .objs [], .bd [(.sc (.int .i64 0)), (.sc (.int .i64 0)), (.sc (.int .i64 0)), (.sc (.bool false))] [(0, 1, (.v 17)), (1, 1, (.v 23)), (2, 1, (.v 36)), (3, 1, (.v 41))]⟩,
    ⟨some 43, none, none, .objs [], .bs false 4 (.agg [(.sc (.int .i64 0)), (.sc (.int .i64 0)), (.sc (.int .i64 0)), (.sc (.bool false))]) 1 [(0, (.v 42))]⟩,
    ⟨some 44, none, none, .objs [(.v 15), (.v 43)], .app 4 32 (.v 15) (.v 43)⟩,
    ⟨some 3, none, none, .objs [], .gmv 4 (.v 44)⟩]))))) <|
  .ops ([
  ⟨some 13, none, none, .objs [], .mv (.v 4)⟩,
  ⟨some 14, none, none, .objs [], .bin .add false (.v 13) (.c (.sc (.int .i64 1)))⟩,
  ⟨some 4, none, none, .objs [], .mv (.v 14)⟩])
noncomputable def il10l0 : C := il10l0b
theorem il10l0_go {P : Program} {pol : Pol} {K : Oracle} {I : Inl} {n : Nat} {f : FuncId} {R : Xit → FEnv → Heap → Prop} {e : FEnv} {h : Heap} : wc P pol K I n f il10l0 R e h = wc P pol K I n f il10l0b R e h := (fun x => x) rfl

noncomputable def il10c : C :=
  .seq (.ops ([
  ⟨some 2, none, none, .objs [], .mv (.c (.sc (.slice none 0 0)))⟩])) <|
  .seq (.ops ([
  ⟨some 3, none, none, .objs [], .gmv 4 (.c (.sc (.slice none 0 0)))⟩])) <|
  .seq (.seq (.ops ([
  ⟨some 4, none, none, .objs [], .mv (.c (.sc (.int .i64 0)))⟩])) <|
  .block 0 (.loop (some [0, 3, 4]) il10l0)) <|
  .seq (.ops ([
  ⟨some 45, none, none, .objs [], .mv (.v 3)⟩,
  ⟨some 2, none, none, .objs [], .mv (.v 45)⟩])) <|
  .ret

theorem il10_eq : cFn Tryd.prog pol 10 = some ⟨46, il10c, [(2, none)]⟩ := by kernel_rfl

noncomputable def il11l0b : C :=
  .seq (.seq (.ops ([
  ⟨some 7, none, none, .objs [], .mv (.v 5)⟩,
  ⟨some 8, none, none, .objs [], .mv (.v 0)⟩,
  ⟨some 9, none, none, .objs [], .lenS (.v 8)⟩,
  ⟨some 10, none, none, .objs [], .bin .lss false (.v 7) (.v 9)⟩,
  ⟨some 11, none, none, .objs [], .mv (.v 10)⟩,
  ⟨some 12, some (11, true), none, .objs [], .mv (.v 5)⟩,
  ⟨some 13, some (11, true), none, .objs [], .bin .lss false (.v 12) (.c (.sc (.int .i64 200)))⟩,
  ⟨some 14, none, none, .objs [], .pk (.v 11) (.v 13) (.c (.sc (.bool false)))⟩])) <|
  .cond (.v 14) (.nop) (.exit 0)) <|
  .seq (.block 1 (.seq (.ops ([
    ⟨some 17, none, none, .objs [], .mv (.v 4)⟩,
    ⟨some 18, none, none, .objs [], .mv (.v 0)⟩,
    ⟨some 19, none, none, .objs [], .mv (.v 5)⟩,
    ⟨some 20, none, none, .objs [], .iaS 5 (.v 18) (.v 19)⟩,
    ⟨some 21, none, none, .objs [], .fa 0 (.v 20)⟩,
    ⟨some 22, none, none, .objs [], .ld false 1 (.v 21)⟩] ++ mkL [0, 3, 5, 17, 22] ([
    ⟨some 23, none, none, .objs [], .cv .i64 (.v 22)⟩,
    ⟨some 24, none, none, .objs [], .bin .add false (.v 17) (.v 23)⟩,
    ⟨some 4, none, none, .objs [], .mv (.v 24)⟩]))) <|
    .seq (.opsD [(4, 16), (11, 16)] ([
    ⟨some 25, none, none, .objs [], .mv (.v 0)⟩,
    ⟨some 26, none, none, .objs [], .mv (.v 5)⟩,
    ⟨some 27, none, none, .objs [], .iaS 5 (.v 25) (.v 26)⟩,
    ⟨some 28, none, none, .objs [], .fa 2 (.v 27)⟩,
    ⟨some 29, none, none, .objs [(.v 28)], .ld false 1 (.v 28)⟩,
    ⟨some 30, none, none, .objs [], .bin .rem false (.v 29) (.c (.sc (.int .u8 4)))⟩,
    ⟨some 31, none, none, .objs [], .cv .i64 (.v 30)⟩,
    ⟨some 32, none, none, .objs [], .mv (.v 0)⟩,
    ⟨some 33, none, none, .objs [], .mv (.v 5)⟩,
    ⟨some 34, none, none, .objs [], .iaS 5 (.v 32) (.v 33)⟩,
    ⟨some 35, none, none, .objs [], .fa 3 (.v 34)⟩] ++ mkL [0, 3, 4, 5, 31, 35] ([
    ⟨some 36, none, none, .objs [(.v 35)], .ld false 1 (.v 35)⟩,
    ⟨some 37, none, none, .objs [], .bin .rem false (.v 36) (.c (.sc (.int .u8 16)))⟩,
    ⟨some 38, none, none, .objs [], .cv .i64 (.v 37)⟩,
    ⟨some 39, none, none, .objs [], .mv (.v 4)⟩,
    ⟨some 40, none, none, .objs [], .bd [(.sc (.int .i64 0)), (.sc (.int .i64 0)), (.sc (.int .i64 0)), (.sc (.int .i64 0))] [(0, 1, (.c (.sc (.int .i64 1)))), (1, 1, (.v 31)), (2, 1, (.v 38)), (3, 1, (.v 39))]⟩,
    ⟨some 6, none, none, .objs [], .nw 4 (.agg [(.sc (.int .i64 0)), (.sc (.int .i64 0)), (.sc (.int .i64 0)), (.sc (.int .i64 0))])⟩,
    ⟨none, none, none, .objs [(.v 6)], .st 4 (.v 6) (.v 40)⟩]))) <|
    .seq (.seq (.ops ([
    ⟨some 41, none, none, .objs [], .mv (.v 0)⟩,
    ⟨some 42, none, none, .objs [], .mv (.v 5)⟩,
    ⟨some 43, none, none, .objs [], .iaS 5 (.v 41) (.v 42)⟩,
    ⟨some 44, none, none, .objs [], .fa 1 (.v 43)⟩,
    ⟨some 45, none, none, .objs [], .ld false 1 (.v 44)⟩])) <|
    .cond (.v 45) (.ops ([
      ⟨some 46, none, none, .objs [], .fa 0 (.v 6)⟩,
      ⟨none, none, none, .objs [], .st 1 (.v 46) (.c (.sc (.int .i64 2)))⟩])) (.nop)) <| mkC [0, 3, 4, 5, 6] <|
    .ops ([
    ⟨some 47, none, none, .objs [], .mv (.v 3)⟩,
    ⟨some 48, none, none, .objs [], .ld true 4 (.v 6)⟩,
    ⟨some 49, none, none, .objs [], .bs false 4 (.agg [(.sc (.int .i64 0)), (.sc (.int .i64 0)), (.sc (.int .i64 0)), (.sc (.int .i64 0))]) 1 [(0, (.v 48))]⟩,
    ⟨some 50, none, none, .objs [], .app 4 32 (.v 47) (.v 49)⟩,
    ⟨some 3, none, none, .objs [], .gmv 4 (.v 50)⟩]))) <|
  .ops ([
  ⟨some 15, none, none, .objs [], .mv (.v 5)⟩,
  ⟨some 16, none, none, .objs [], .bin .add false (.v 15) (.c (.sc (.int .i64 1)))⟩,
  ⟨some 5, none, none, .objs [], .mv (.v 16)⟩])
noncomputable def il11l0 : C := il11l0b
theorem il11l0_go {P : Program} {pol : Pol} {K : Oracle} {I : Inl} {n : Nat} {f : FuncId} {R : Xit → FEnv → Heap → Prop} {e : FEnv} {h : Heap} : wc P pol K I n f il11l0 R e h = wc P pol K I n f il11l0b R e h := (fun x => x) rfl

noncomputable def il11c : C :=
  .seq (.ops ([
  ⟨some 2, none, none, .objs [], .mv (.c (.sc (.slice none 0 0)))⟩])) <|
  .seq (.ops ([
  ⟨some 3, none, none, .objs [], .gmv 4 (.c (.sc (.slice none 0 0)))⟩])) <|
  .seq (.ops ([
  ⟨some 4, none, none, .objs [], .mv (.c (.sc (.int .i64 0)))⟩])) <|
  .seq (.seq (.ops ([
  ⟨some 5, none, none, .objs [], .mv (.c (.sc (.int .i64 0)))⟩])) <|
  .block 0 (.loop (some [0, 3, 4, 5]) il11l0)) <|
  .seq (.ops ([
  ⟨some 51, none, none, .objs [], .mv (.v 3)⟩,
  ⟨some 2, none, none, .objs [], .mv (.v 51)⟩])) <|
  .ret

theorem il11_eq : cFn Tryd.prog pol 11 = some ⟨52, il11c, [(2, none)]⟩ := by kernel_rfl

noncomputable def il12l0b : C :=
  .seq (.ops ([
  ⟨some 58, none, none, .objs [], .bin .lss false (.v 57) (.v 56)⟩])) <|
  .seq (.cond (.v 58) (.nop) (.exit 0)) <|
  .seq (.block 1 (.seq (.ops ([
    ⟨some 59, none, none, .objs [], .iaS 4 (.v 55) (.v 57)⟩,
    ⟨some 60, none, none, .objs [], .ld true 4 (.v 59)⟩,
    ⟨some 12, none, none, .objs [], .nw 4 (.agg [(.sc (.int .i64 0)), (.sc (.int .i64 0)), (.sc (.int .i64 0)), (.sc (.bool false))])⟩,
    ⟨none, none, none, .objs [], .st 4 (.v 12) (.v 60)⟩])) <|
    .opsD [] ([
    ⟨some 61, none, none, .objs [], .mv (.v 10)⟩,
    ⟨some 62, none, none, .objs [], .nc (.v 61)⟩,
    ⟨some 63, none, none, .objs [], .fa 0 (.v 62)⟩,
    ⟨some 64, none, none, .objs [], .fa 0 (.v 63)⟩,
    ⟨some 65, none, none, .objs [(.v 64)], .ld false 1 (.v 64)⟩,
    ⟨some 66, none, none, .objs [], .fa 0 (.v 12)⟩,
    ⟨some 67, none, none, .objs [(.v 66)], .ld false 1 (.v 66)⟩,
    ⟨some 68, none, none, .objs [(.v 12)], .ld true 4 (.v 12)⟩,
    ⟨none, none, none, .objs [(.v 65)], .raw (opOf Tryd.prog 12 13 8)⟩]))) <| mkC [1, 2, 6, 10, 55, 56, 57] <|
  .ops ([
  ⟨some 69, none, none, .objs [], .bin .add false (.v 57) (.c (.sc (.int .i64 1)))⟩,
  ⟨some 57, none, none, .objs [], .mv (.v 69)⟩])
noncomputable def il12l0 : C := il12l0b
theorem il12l0_go {P : Program} {pol : Pol} {K : Oracle} {I : Inl} {n : Nat} {f : FuncId} {R : Xit → FEnv → Heap → Prop} {e : FEnv} {h : Heap} : wc P pol K I n f il12l0 R e h = wc P pol K I n f il12l0b R e h := (fun x => x) rfl

noncomputable def il12c : C :=
  .seq (.ops ([
  ⟨some 6, none, none, .objs [], .nw 4 (.agg [(.sc (.int .i64 0)), (.sc (.int .i64 0)), (.sc (.int .i64 0)), (.sc (.int .i64 0))])⟩,
  ⟨some 7, none, none, .objs [], .mv (.c (.sc (.int .i64 0)))⟩])) <|
  .seq (.seq (.ops ([
  ⟨some 14, none, none, .objs [], .mv (.v 0)⟩,
  ⟨some 15, none, none, .objs [], .call (.c (.fn (.func 26) [] [])) [(.v 14)]⟩,
  ⟨some 8, none, none, .objs [], .mv (.v 15)⟩])) <|
  .seq (.ops ([
  ⟨some 16, none, none, .objs [], .mv (.v 8)⟩,
  ⟨some 17, none, none, .objs [], .bin .neq false (.v 16) (.c (.sc (.int .i64 0)))⟩])) <|
  .cond (.v 17) (.seq (.ops ([
    ⟨some 18, none, none, .objs [], .bd [(.sc (.int .i64 0)), (.sc (.int .i64 0)), (.sc (.int .i64 0)), (.sc (.int .i64 0))] []⟩,
    ⟨some 19, none, none, .objs [], .mv (.v 8)⟩,
    ⟨none, none, none, .objs [], .st 4 (.v 6) (.v 18)⟩,
    ⟨some 7, none, none, .objs [], .mv (.v 19)⟩])) <|
    .ret) (.nop)) <|
  .seq (.seq (.ops ([
  ⟨some 20, none, none, .objs [], .mv (.v 1)⟩,
  ⟨some 21, none, none, .objs [], .call (.c (.fn (.func 29) [] [])) [(.v 20)]⟩,
  ⟨some 9, none, none, .objs [], .mv (.v 21)⟩])) <| mkC [0, 1, 2, 6, 9] <|
  .seq (.ops ([
  ⟨some 22, none, none, .objs [], .mv (.v 9)⟩,
  ⟨some 23, none, none, .objs [], .bin .neq false (.v 22) (.c (.sc (.int .i64 0)))⟩])) <|
  .cond (.v 23) (.seq (.ops ([
    ⟨some 24, none, none, .objs [], .bd [(.sc (.int .i64 0)), (.sc (.int .i64 0)), (.sc (.int .i64 0)), (.sc (.int .i64 0))] []⟩,
    ⟨some 25, none, none, .objs [], .mv (.v 9)⟩,
    ⟨none, none, none, .objs [], .st 4 (.v 6) (.v 24)⟩,
    ⟨some 7, none, none, .objs [], .mv (.v 25)⟩])) <|
    .ret) (.nop)) <|
  .seq (.seq (.ops ([
  ⟨some 26, none, none, .objs [], .mv (.v 2)⟩,
  ⟨some 27, none, none, .objs [], .bin .lss false (.v 26) (.c (.sc (.int .i64 0)))⟩,
  ⟨some 28, none, none, .objs [], .mv (.v 27)⟩,
  ⟨some 29, some (28, false), none, .objs [], .mv (.v 2)⟩,
  ⟨some 30, some (28, false), none, .objs [], .bin .gtr false (.v 29) (.c (.sc (.int .i64 1099511627776)))⟩,
  ⟨some 31, none, none, .objs [], .pk (.v 28) (.c (.sc (.bool true))) (.v 30)⟩,
  ⟨some 32, none, none, .objs [], .mv (.v 31)⟩,
  ⟨some 33, some (32, false), none, .objs [], .mv (.v 1)⟩] ++ mkL [0, 1, 2, 6, 32, 33] ([
  ⟨some 34, some (32, false), none, .objs [], .lenS (.v 33)⟩,
  ⟨some 35, some (32, false), none, .objs [], .bin .gtr false (.v 34) (.c (.sc (.int .i64 0)))⟩,
  ⟨some 36, some (32, false), none, .objs [], .mv (.v 35)⟩,
  ⟨some 37, some (36, true), none, .objs [], .mv (.v 2)⟩,
  ⟨some 38, some (36, true), none, .objs [], .mv (.v 1)⟩,
  ⟨some 39, some (36, true), none, .objs [], .mv (.v 1)⟩,
  ⟨some 40, some (36, true), none, .objs [], .lenS (.v 39)⟩,
  ⟨some 41, some (36, true), none, .objs [], .bin .sub false (.v 40) (.c (.sc (.int .i64 1)))⟩,
  ⟨some 42, some (36, true), none, .objs [], .iaS 4 (.v 38) (.v 41)⟩,
  ⟨some 43, some (36, true), none, .objs [], .fa 3 (.v 42)⟩,
  ⟨some 44, some (36, true), none, .objs [], .ld false 1 (.v 43)⟩,
  ⟨some 45, some (36, true), none, .objs [], .bin .lss false (.v 37) (.v 44)⟩,
  ⟨some 46, some (32, false), none, .objs [], .pk (.v 36) (.v 45) (.c (.sc (.bool false)))⟩,
  ⟨some 47, none, none, .objs [], .pk (.v 32) (.c (.sc (.bool true))) (.v 46)⟩]))) <| mkC [0, 1, 2, 6, 47] <|
  .cond (.v 47) (.seq (.ops ([
    ⟨some 48, none, none, .objs [], .bd [(.sc (.int .i64 0)), (.sc (.int .i64 0)), (.sc (.int .i64 0)), (.sc (.int .i64 0))] []⟩,
    ⟨none, none, none, .objs [], .st 4 (.v 6) (.v 48)⟩,
    ⟨some 7, none, none, .objs [], .mv (.c (.sc (.int .i64 2)))⟩])) <|
    .ret) (.nop)) <|
  .seq (.ops ([
  ⟨some 49, none, none, .objs [], .raw (opOf Tryd.prog 12 9 0)⟩,
  ⟨some 50, none, none, .objs [], .raw (opOf Tryd.prog 12 9 1)⟩,
  ⟨some 51, none, none, .objs [], .raw (opOf Tryd.prog 12 9 2)⟩,
  ⟨some 52, none, none, .objs [], .bd [(.sc (.map none)), (.sc (.map none)), (.sc (.map none))] [(0, 1, (.v 49)), (1, 1, (.v 50)), (2, 1, (.v 51))]⟩,
  ⟨some 53, none, none, .objs [], .bd [(.sc (.map none)), (.sc (.map none)), (.sc (.map none))] [(0, 3, (.v 52))]⟩,
  ⟨some 54, none, none, .objs [], .bx false (.v 53)⟩,
  ⟨some 10, none, none, .objs [], .mv (.v 54)⟩])) <|
  .seq (.seq (.ops ([
  ⟨some 55, none, none, .objs [], .mv (.v 0)⟩,
  ⟨some 56, none, none, .objs [], .lenS (.v 55)⟩,
  ⟨some 57, none, none, .objs [], .mv (.c (.sc (.int .i64 0)))⟩])) <|
  .block 0 (.loop (some [1, 2, 6, 10, 55, 56, 57]) il12l0)) <|
  .seq (.seq (.ops ([
  ⟨some 70, none, none, .objs [], .mv (.v 10)⟩,
  ⟨some 71, none, none, .objs [], .mv (.v 1)⟩,
  ⟨some 72, none, none, .objs [], .call (.c (.fn (.func 30) [] [])) [(.v 70), (.v 71)]⟩,
  ⟨some 13, none, none, .objs [], .nw 4 (.agg [(.sc (.int .i64 0)), (.sc (.int .i64 0)), (.sc (.int .i64 0)), (.sc (.int .i64 0))])⟩,
  ⟨none, none, none, .objs [], .st 4 (.v 13) (.v 72)⟩])) <|
  .seq (.ops ([
  ⟨some 73, none, none, .objs [], .ld true 4 (.v 13)⟩,
  ⟨some 74, none, none, .objs [], .bd [(.sc (.int .i64 0)), (.sc (.int .i64 0)), (.sc (.int .i64 0)), (.sc (.int .i64 0))] []⟩,
  ⟨some 75, none, none, .objs [], .raw (opOf Tryd.prog 12 16 2)⟩])) <|
  .cond (.v 75) (.seq (.ops ([
    ⟨some 76, none, none, .objs [], .ld true 4 (.v 13)⟩,
    ⟨none, none, none, .objs [], .st 4 (.v 6) (.v 76)⟩,
    ⟨some 7, none, none, .objs [], .mv (.c (.sc (.int .i64 0)))⟩])) <|
    .ret) (.nop)) <|
  .seq (.ops ([
  ⟨some 77, none, none, .objs [], .mv (.v 10)⟩,
  ⟨some 78, none, none, .objs [], .mv (.v 1)⟩,
  ⟨some 79, none, none, .objs [], .mv (.v 2)⟩] ++ mkL [6, 77, 78, 79] ([
  ⟨some 80, none, none, .objs [], .call (.c (.fn (.func 31) [] [])) [(.v 77), (.v 78), (.v 79)]⟩,
  ⟨none, none, none, .objs [], .st 4 (.v 6) (.v 80)⟩,
  ⟨some 7, none, none, .objs [], .mv (.c (.sc (.int .i64 0)))⟩]))) <|
  .ret

theorem il12_eq : cFn Tryd.prog pol 12 = some ⟨81, il12c, [(6, some (true, 4)), (7, none)]⟩ := by kernel_rfl
theorem raw12_9_0 {e : FEnv} {h : Heap} : iStep Tryd.prog pol 12 e h (.raw (opOf Tryd.prog 12 9 0)) = some (.val (.mp h.length) (h ++ [.map []])) := raw_makeMap (t := 74) (by kernel_rfl)
theorem raw12_9_1 {e : FEnv} {h : Heap} : iStep Tryd.prog pol 12 e h (.raw (opOf Tryd.prog 12 9 1)) = some (.val (.mp h.length) (h ++ [.map []])) := raw_makeMap (t := 75) (by kernel_rfl)
theorem raw12_9_2 {e : FEnv} {h : Heap} : iStep Tryd.prog pol 12 e h (.raw (opOf Tryd.prog 12 9 2)) = some (.val (.mp h.length) (h ++ [.map []])) := raw_makeMap (t := 76) (by kernel_rfl)
theorem raw12_13_8 {e : FEnv} {h : Heap} : iStep Tryd.prog pol 12 e h (.raw (opOf Tryd.prog 12 13 8)) = hOf (upV Tryd.prog 74 h (Src.get e (.v 65)) (Src.get e (.v 67)) (Src.get e (.v 68))) := raw_update (m := (.tmp 65)) (k := (.tmp 67)) (x := (.tmp 68)) (by kernel_rfl)
theorem raw12_16_2 {e : FEnv} {h : Heap} : iStep Tryd.prog pol 12 e h (.raw (opOf Tryd.prog 12 16 2)) = vOf h (binE Tryd.prog true 34 (.tmp 73) (.tmp 74) (Src.get e (.v 73)) (Src.get e (.v 74))) := raw_neq (x := (.tmp 73)) (y := (.tmp 74)) (s := 34) (by kernel_rfl)

noncomputable def il13l0b : C :=
  .seq (.seq (.ops ([
  ⟨some 5, none, none, .objs [], .mv (.v 3)⟩,
  ⟨some 6, none, none, .objs [], .mv (.v 0)⟩,
  ⟨some 7, none, none, .objs [], .lenS (.v 6)⟩,
  ⟨some 8, none, none, .objs [], .bin .lss false (.v 5) (.v 7)⟩])) <|
  .cond (.v 8) (.nop) (.exit 0)) <|
  .seq (.block 1 (.seq (.ops ([
    ⟨some 11, none, none, .objs [], .mv (.v 0)⟩,
    ⟨some 12, none, none, .objs [], .mv (.v 3)⟩,
    ⟨some 13, none, none, .objs [], .iaS 4 (.v 11) (.v 12)⟩,
    ⟨some 14, none, none, .objs [], .ld true 4 (.v 13)⟩,
    ⟨some 4, none, none, .objs [], .nw 4 (.agg [(.sc (.int .i64 0)), (.sc (.int .i64 0)), (.sc (.int .i64 0)), (.sc (.bool false))])⟩,
    ⟨none, none, none, .objs [], .st 4 (.v 4) (.v 14)⟩])) <|
    .seq (.opsD [] ([
    ⟨some 15, none, none, .objs [], .fa 0 (.v 4)⟩,
    ⟨some 16, none, none, .objs [(.v 15)], .ld false 1 (.v 15)⟩,
    ⟨some 17, none, none, .objs [], .bin .lss false (.v 16) (.c (.sc (.int .i64 1)))⟩,
    ⟨some 18, none, none, .objs [], .mv (.v 17)⟩] ++ mkL [0, 3, 4, 18] ([
    ⟨some 19, some (18, false), none, .objs [], .fa 0 (.v 4)⟩,
    ⟨some 20, some (18, false), none, .objs [(.v 19)], .ld false 1 (.v 19)⟩,
    ⟨some 21, some (18, false), none, .objs [], .bin .gtr false (.v 20) (.c (.sc (.int .i64 4095)))⟩,
    ⟨some 22, none, none, .objs [], .pk (.v 18) (.c (.sc (.bool true))) (.v 21)⟩,
    ⟨some 23, none, none, .objs [], .mv (.v 22)⟩,
    ⟨some 24, some (23, false), none, .objs [], .mv (.v 3)⟩,
    ⟨some 25, some (23, false), none, .objs [], .bin .gtr false (.v 24) (.c (.sc (.int .i64 0)))⟩,
    ⟨some 26, some (23, false), none, .objs [], .mv (.v 25)⟩,
    ⟨some 27, some (26, true), none, .objs [], .mv (.v 0)⟩,
    ⟨some 28, some (26, true), none, .objs [], .mv (.v 3)⟩,
    ⟨some 29, some (26, true), none, .objs [], .bin .sub false (.v 28) (.c (.sc (.int .i64 1)))⟩,
    ⟨some 30, some (26, true), none, .objs [], .iaS 4 (.v 27) (.v 29)⟩,
    ⟨some 31, some (26, true), none, .objs [], .fa 0 (.v 30)⟩,
    ⟨some 32, some (26, true), none, .objs [(.v 31)], .ld false 1 (.v 31)⟩] ++ mkL [0, 3, 4, 23, 26, 32] ([
    ⟨some 33, some (26, true), none, .objs [], .fa 0 (.v 4)⟩,
    ⟨some 34, some (26, true), none, .objs [(.v 33)], .ld false 1 (.v 33)⟩,
    ⟨some 35, some (26, true), none, .objs [], .bin .geq false (.v 32) (.v 34)⟩,
    ⟨some 36, some (23, false), none, .objs [], .pk (.v 26) (.v 35) (.c (.sc (.bool false)))⟩,
    ⟨some 37, none, none, .objs [], .pk (.v 23) (.c (.sc (.bool true))) (.v 36)⟩,
    ⟨some 38, none, none, .objs [], .mv (.v 37)⟩,
    ⟨some 39, some (38, false), none, .objs [], .fa 1 (.v 4)⟩,
    ⟨some 40, some (38, false), none, .objs [(.v 39)], .ld false 1 (.v 39)⟩,
    ⟨some 41, some (38, false), none, .objs [], .bin .lss false (.v 40) (.c (.sc (.int .i64 0)))⟩,
    ⟨some 42, none, none, .objs [], .pk (.v 38) (.c (.sc (.bool true))) (.v 41)⟩,
    ⟨some 43, none, none, .objs [], .mv (.v 42)⟩,
    ⟨some 44, some (43, false), none, .objs [], .fa 1 (.v 4)⟩,
    ⟨some 45, some (43, false), none, .objs [(.v 44)], .ld false 1 (.v 44)⟩,
    ⟨some 46, some (43, false), none, .objs [], .fa 2 (.v 4)⟩] ++ mkL [0, 3, 4, 43, 45, 46] ([
    ⟨some 47, some (43, false), none, .objs [(.v 46)], .ld false 1 (.v 46)⟩,
    ⟨some 48, some (43, false), none, .objs [], .bin .gtr false (.v 45) (.v 47)⟩,
    ⟨some 49, none, none, .objs [], .pk (.v 43) (.c (.sc (.bool true))) (.v 48)⟩,
    ⟨some 50, none, none, .objs [], .mv (.v 49)⟩,
    ⟨some 51, some (50, false), none, .objs [], .fa 2 (.v 4)⟩,
    ⟨some 52, some (50, false), none, .objs [(.v 51)], .ld false 1 (.v 51)⟩,
    ⟨some 53, some (50, false), none, .objs [], .bin .gtr false (.v 52) (.c (.sc (.int .i64 1099511627776)))⟩,
    ⟨some 54, none, none, .objs [], .pk (.v 50) (.c (.sc (.bool true))) (.v 53)⟩]))))) <|
    .cond (.v 54) (.seq (.ops ([
      ⟨some 2, none, none, .objs [], .mv (.c (.sc (.bool false)))⟩])) <|
      .ret) (.nop))) <|
  .ops ([
  ⟨some 9, none, none, .objs [], .mv (.v 3)⟩,
  ⟨some 10, none, none, .objs [], .bin .add false (.v 9) (.c (.sc (.int .i64 1)))⟩,
  ⟨some 3, none, none, .objs [], .mv (.v 10)⟩])
noncomputable def il13l0 : C := il13l0b
theorem il13l0_go {P : Program} {pol : Pol} {K : Oracle} {I : Inl} {n : Nat} {f : FuncId} {R : Xit → FEnv → Heap → Prop} {e : FEnv} {h : Heap} : wc P pol K I n f il13l0 R e h = wc P pol K I n f il13l0b R e h := (fun x => x) rfl

noncomputable def il13c : C :=
  .seq (.ops ([
  ⟨some 2, none, none, .objs [], .mv (.c (.sc (.bool false)))⟩])) <|
  .seq (.seq (.ops ([
  ⟨some 3, none, none, .objs [], .mv (.c (.sc (.int .i64 0)))⟩])) <|
  .block 0 (.loop (some [0, 3]) il13l0)) <|
  .seq (.ops ([
  ⟨some 55, none, none, .objs [], .mv (.v 0)⟩,
  ⟨some 56, none, none, .objs [], .lenS (.v 55)⟩,
  ⟨some 57, none, none, .objs [], .bin .leq false (.v 56) (.c (.sc (.int .i64 12)))⟩,
  ⟨some 2, none, none, .objs [], .mv (.v 57)⟩])) <|
  .ret

theorem il13_eq : cFn Tryd.prog pol 13 = some ⟨58, il13c, [(2, none)]⟩ := by kernel_rfl

noncomputable def il14l0b : C :=
  .seq (.seq (.ops ([
  ⟨some 5, none, none, .objs [], .mv (.v 3)⟩,
  ⟨some 6, none, none, .objs [], .mv (.v 0)⟩,
  ⟨some 7, none, none, .objs [], .lenS (.v 6)⟩,
  ⟨some 8, none, none, .objs [], .bin .lss false (.v 5) (.v 7)⟩])) <|
  .cond (.v 8) (.nop) (.exit 0)) <|
  .seq (.block 1 (.seq (.ops ([
    ⟨some 11, none, none, .objs [], .mv (.v 0)⟩,
    ⟨some 12, none, none, .objs [], .mv (.v 3)⟩,
    ⟨some 13, none, none, .objs [], .iaS 4 (.v 11) (.v 12)⟩,
    ⟨some 14, none, none, .objs [], .ld true 4 (.v 13)⟩,
    ⟨some 4, none, none, .objs [], .nw 4 (.agg [(.sc (.int .i64 0)), (.sc (.int .i64 0)), (.sc (.int .i64 0)), (.sc (.int .i64 0))])⟩,
    ⟨none, none, none, .objs [], .st 4 (.v 4) (.v 14)⟩])) <|
    .seq (.opsD [] ([
    ⟨some 15, none, none, .objs [], .fa 0 (.v 4)⟩,
    ⟨some 16, none, none, .objs [(.v 15)], .ld false 1 (.v 15)⟩,
    ⟨some 17, none, none, .objs [], .bin .neq false (.v 16) (.c (.sc (.int .i64 1)))⟩,
    ⟨some 18, none, none, .objs [], .mv (.v 17)⟩] ++ mkL [0, 3, 4, 18] ([
    ⟨some 19, some (18, true), none, .objs [], .fa 0 (.v 4)⟩,
    ⟨some 20, some (18, true), none, .objs [(.v 19)], .ld false 1 (.v 19)⟩,
    ⟨some 21, some (18, true), none, .objs [], .bin .neq false (.v 20) (.c (.sc (.int .i64 2)))⟩,
    ⟨some 22, none, none, .objs [], .pk (.v 18) (.v 21) (.c (.sc (.bool false)))⟩,
    ⟨some 23, none, none, .objs [], .mv (.v 22)⟩,
    ⟨some 24, some (23, false), none, .objs [], .fa 1 (.v 4)⟩,
    ⟨some 25, some (23, false), none, .objs [(.v 24)], .ld false 1 (.v 24)⟩,
    ⟨some 26, some (23, false), none, .objs [], .bin .lss false (.v 25) (.c (.sc (.int .i64 0)))⟩,
    ⟨some 27, none, none, .objs [], .pk (.v 23) (.c (.sc (.bool true))) (.v 26)⟩,
    ⟨some 28, none, none, .objs [], .mv (.v 27)⟩,
    ⟨some 29, some (28, false), none, .objs [], .fa 1 (.v 4)⟩,
    ⟨some 30, some (28, false), none, .objs [(.v 29)], .ld false 1 (.v 29)⟩,
    ⟨some 31, some (28, false), none, .objs [], .bin .gtr false (.v 30) (.c (.sc (.int .i64 4095)))⟩,
    ⟨some 32, none, none, .objs [], .pk (.v 28) (.c (.sc (.bool true))) (.v 31)⟩] ++ mkL [0, 3, 4, 32] ([
    ⟨some 33, none, none, .objs [], .mv (.v 32)⟩,
    ⟨some 34, some (33, false), none, .objs [], .fa 2 (.v 4)⟩,
    ⟨some 35, some (33, false), none, .objs [(.v 34)], .ld false 1 (.v 34)⟩,
    ⟨some 36, some (33, false), none, .objs [], .bin .lss false (.v 35) (.c (.sc (.int .i64 0)))⟩,
    ⟨some 37, none, none, .objs [], .pk (.v 33) (.c (.sc (.bool true))) (.v 36)⟩,
    ⟨some 38, none, none, .objs [], .mv (.v 37)⟩,
    ⟨some 39, some (38, false), none, .objs [], .fa 2 (.v 4)⟩,
    ⟨some 40, some (38, false), none, .objs [(.v 39)], .ld false 1 (.v 39)⟩,
    ⟨some 41, some (38, false), none, .objs [], .bin .gtr false (.v 40) (.c (.sc (.int .i64 65535)))⟩,
    ⟨some 42, none, none, .objs [], .pk (.v 38) (.c (.sc (.bool true))) (.v 41)⟩,
    ⟨some 43, none, none, .objs [], .mv (.v 42)⟩,
    ⟨some 44, some (43, false), none, .objs [], .fa 3 (.v 4)⟩,
    ⟨some 45, some (43, false), none, .objs [(.v 44)], .ld false 1 (.v 44)⟩,
    ⟨some 46, some (43, false), none, .objs [], .bin .lss false (.v 45) (.c (.sc (.int .i64 0)))⟩] ++ mkL [0, 3, 4, 43, 46] ([
    ⟨some 47, none, none, .objs [], .pk (.v 43) (.c (.sc (.bool true))) (.v 46)⟩,
    ⟨some 48, none, none, .objs [], .mv (.v 47)⟩,
    ⟨some 49, some (48, false), none, .objs [], .fa 3 (.v 4)⟩,
    ⟨some 50, some (48, false), none, .objs [(.v 49)], .ld false 1 (.v 49)⟩,
    ⟨some 51, some (48, false), none, .objs [], .bin .gtr false (.v 50) (.c (.sc (.int .i64 1099511627776)))⟩,
    ⟨some 52, none, none, .objs [], .pk (.v 48) (.c (.sc (.bool true))) (.v 51)⟩,
    ⟨some 53, none, none, .objs [], .mv (.v 52)⟩,
    ⟨some 54, some (53, false), none, .objs [], .mv (.v 3)⟩,
    ⟨some 55, some (53, false), none, .objs [], .bin .gtr false (.v 54) (.c (.sc (.int .i64 0)))⟩,
    ⟨some 56, some (53, false), none, .objs [], .mv (.v 55)⟩,
    ⟨some 57, some (56, true), none, .objs [], .mv (.v 0)⟩,
    ⟨some 58, some (56, true), none, .objs [], .mv (.v 3)⟩,
    ⟨some 59, some (56, true), none, .objs [], .bin .sub false (.v 58) (.c (.sc (.int .i64 1)))⟩,
    ⟨some 60, some (56, true), none, .objs [], .iaS 4 (.v 57) (.v 59)⟩] ++ mkL [0, 3, 4, 53, 56, 60] ([
    ⟨some 61, some (56, true), none, .objs [], .fa 3 (.v 60)⟩,
    ⟨some 62, some (56, true), none, .objs [(.v 61)], .ld false 1 (.v 61)⟩,
    ⟨some 63, some (56, true), none, .objs [], .fa 3 (.v 4)⟩,
    ⟨some 64, some (56, true), none, .objs [(.v 63)], .ld false 1 (.v 63)⟩,
    ⟨some 65, some (56, true), none, .objs [], .bin .gtr false (.v 62) (.v 64)⟩,
    ⟨some 66, some (53, false), none, .objs [], .pk (.v 56) (.v 65) (.c (.sc (.bool false)))⟩,
    ⟨some 67, none, none, .objs [], .pk (.v 53) (.c (.sc (.bool true))) (.v 66)⟩])))))) <|
    .cond (.v 67) (.seq (.ops ([
      ⟨some 2, none, none, .objs [], .mv (.c (.sc (.bool false)))⟩])) <|
      .ret) (.nop))) <|
  .ops ([
  ⟨some 9, none, none, .objs [], .mv (.v 3)⟩,
  ⟨some 10, none, none, .objs [], .bin .add false (.v 9) (.c (.sc (.int .i64 1)))⟩,
  ⟨some 3, none, none, .objs [], .mv (.v 10)⟩])
noncomputable def il14l0 : C := il14l0b
theorem il14l0_go {P : Program} {pol : Pol} {K : Oracle} {I : Inl} {n : Nat} {f : FuncId} {R : Xit → FEnv → Heap → Prop} {e : FEnv} {h : Heap} : wc P pol K I n f il14l0 R e h = wc P pol K I n f il14l0b R e h := (fun x => x) rfl

noncomputable def il14c : C :=
  .seq (.ops ([
  ⟨some 2, none, none, .objs [], .mv (.c (.sc (.bool false)))⟩])) <|
  .seq (.seq (.ops ([
  ⟨some 3, none, none, .objs [], .mv (.c (.sc (.int .i64 0)))⟩])) <|
  .block 0 (.loop (some [0, 3]) il14l0)) <|
  .seq (.ops ([
  ⟨some 68, none, none, .objs [], .mv (.v 0)⟩,
  ⟨some 69, none, none, .objs [], .lenS (.v 68)⟩,
  ⟨some 70, none, none, .objs [], .bin .leq false (.v 69) (.c (.sc (.int .i64 4096)))⟩,
  ⟨some 2, none, none, .objs [], .mv (.v 70)⟩])) <|
  .ret

theorem il14_eq : cFn Tryd.prog pol 14 = some ⟨71, il14c, [(2, none)]⟩ := by kernel_rfl

noncomputable def il15l0b : C :=
  .seq (.seq (.ops ([
  ⟨some 12, none, none, .objs [], .mv (.v 7)⟩,
  ⟨some 13, none, none, .objs [], .mv (.v 1)⟩,
  ⟨some 14, none, none, .objs [], .lenS (.v 13)⟩,
  ⟨some 15, none, none, .objs [], .bin .lss false (.v 12) (.v 14)⟩])) <|
  .cond (.v 15) (.nop) (.exit 0)) <|
  .seq (.block 1 (.seq (.ops ([
    ⟨some 18, none, none, .objs [], .mv (.v 0)⟩,
    ⟨some 19, none, none, .objs [], .mv (.v 1)⟩,
    ⟨some 20, none, none, .objs [], .mv (.v 7)⟩,
    ⟨some 21, none, none, .objs [], .call (.c (.fn (.func 32) [] [])) [(.v 18), (.v 19), (.v 20)]⟩,
    ⟨some 8, none, none, .objs [], .mv (.v 21)⟩])) <|
    .seq (.ops ([
    ⟨some 22, none, none, .objs [], .mv (.v 8)⟩,
    ⟨some 23, none, none, .objs [], .bin .neq false (.v 22) (.c (.sc (.int .i64 0)))⟩])) <|
    .cond (.v 23) (.seq (.opsD [] ([
      ⟨some 24, none, none, .objs [], .mv (.v 8)⟩,
      ⟨some 25, none, none, .objs [], .mv (.v 7)⟩,
      ⟨some 26, none, none, .objs [], .mv (.v 1)⟩] ++ mkL [1, 6, 7, 24, 25, 26] ([
      ⟨some 27, none, none, .objs [], .mv (.v 7)⟩,
      ⟨some 28, none, none, .objs [], .iaS 4 (.v 26) (.v 27)⟩,
      ⟨some 29, none, none, .objs [], .fa 1 (.v 28)⟩,
      ⟨some 30, none, none, .objs [(.v 29)], .ld false 1 (.v 29)⟩,
      ⟨some 31, none, none, .objs [], .mv (.v 1)⟩,
      ⟨some 32, none, none, .objs [], .mv (.v 7)⟩,
      ⟨some 33, none, none, .objs [], .iaS 4 (.v 31) (.v 32)⟩,
      ⟨some 34, none, none, .objs [], .fa 2 (.v 33)⟩,
      ⟨some 35, none, none, .objs [(.v 34)], .ld false 1 (.v 34)⟩,
      ⟨some 36, none, none, .objs [], .bd [(.sc (.int .i64 0)), (.sc (.int .i64 0)), (.sc (.int .i64 0)), (.sc (.int .i64 0))] [(0, 1, (.v 24)), (1, 1, (.v 25)), (2, 1, (.v 30)), (3, 1, (.v 35))]⟩,
      ⟨none, none, none, .objs [(.v 6)], .st 4 (.v 6) (.v 36)⟩]))) <|
      .ret) (.nop))) <|
  .ops ([
  ⟨some 16, none, none, .objs [], .mv (.v 7)⟩,
  ⟨some 17, none, none, .objs [], .bin .add false (.v 16) (.c (.sc (.int .i64 1)))⟩,
  ⟨some 7, none, none, .objs [], .mv (.v 17)⟩])
noncomputable def il15l0 : C := il15l0b
theorem il15l0_go {P : Program} {pol : Pol} {K : Oracle} {I : Inl} {n : Nat} {f : FuncId} {R : Xit → FEnv → Heap → Prop} {e : FEnv} {h : Heap} : wc P pol K I n f il15l0 R e h = wc P pol K I n f il15l0b R e h := (fun x => x) rfl

noncomputable def il15l1b : C :=
  .seq (.seq (.ops ([
  ⟨some 37, none, none, .objs [], .mv (.v 9)⟩,
  ⟨some 38, none, none, .objs [], .mv (.v 1)⟩,
  ⟨some 39, none, none, .objs [], .lenS (.v 38)⟩,
  ⟨some 40, none, none, .objs [], .bin .lss false (.v 37) (.v 39)⟩])) <|
  .cond (.v 40) (.nop) (.exit 2)) <|
  .seq (.block 3 (.seq (.ops ([
    ⟨some 44, none, none, .objs [], .mv (.v 0)⟩,
    ⟨some 45, none, none, .objs [], .mv (.v 1)⟩,
    ⟨some 46, none, none, .objs [], .mv (.v 9)⟩,
    ⟨some 47, none, none, .objs [], .iaS 4 (.v 45) (.v 46)⟩,
    ⟨some 48, none, none, .objs [], .fa 1 (.v 47)⟩,
    ⟨some 49, none, none, .objs [], .ld false 1 (.v 48)⟩,
    ⟨some 50, none, none, .objs [], .call (.c (.fn (.func 33) [] [])) [(.v 44), (.v 49)]⟩,
    ⟨some 43, none, none, .objs [], .mv (.v 50)⟩,
    ⟨some 51, none, none, .objs [], .ex (.v 43) 0⟩,
    ⟨some 52, none, none, .objs [], .ex (.v 43) 1⟩] ++ mkL [0, 1, 2, 6, 9, 51, 52] ([
    ⟨some 10, none, none, .objs [], .nw 4 (.agg [(.sc (.int .i64 0)), (.sc (.int .i64 0)), (.sc (.int .i64 0)), (.sc (.bool false))])⟩,
    ⟨none, none, none, .objs [], .st 4 (.v 10) (.v 51)⟩,
    ⟨some 11, none, none, .objs [], .mv (.v 52)⟩]))) <|
    .seq (.opsD [] ([
    ⟨some 53, none, none, .objs [], .mv (.v 1)⟩,
    ⟨some 54, none, none, .objs [], .mv (.v 9)⟩,
    ⟨some 55, none, none, .objs [], .iaS 4 (.v 53) (.v 54)⟩,
    ⟨some 56, none, none, .objs [], .fa 0 (.v 55)⟩,
    ⟨some 57, none, none, .objs [(.v 56)], .ld false 1 (.v 56)⟩,
    ⟨some 58, none, none, .objs [], .bin .eql false (.v 57) (.c (.sc (.int .i64 1)))⟩,
    ⟨some 59, none, none, .objs [], .mv (.v 58)⟩,
    ⟨some 60, some (59, true), none, .objs [], .mv (.v 1)⟩,
    ⟨some 61, some (59, true), none, .objs [], .mv (.v 1)⟩,
    ⟨some 62, some (59, true), none, .objs [(.v 61)], .lenS (.v 61)⟩,
    ⟨some 63, some (59, true), none, .objs [], .mv (.v 1)⟩] ++ mkL [0, 1, 2, 6, 9, 10, 59, 60, 62, 63] ([
    ⟨some 64, some (59, true), none, .objs [], .mv (.v 9)⟩,
    ⟨some 65, some (59, true), none, .objs [], .iaS 4 (.v 63) (.v 64)⟩,
    ⟨some 66, some (59, true), none, .objs [], .fa 1 (.v 65)⟩,
    ⟨some 67, some (59, true), none, .objs [(.v 66)], .ld false 1 (.v 66)⟩,
    ⟨some 68, some (59, true), none, .objs [], .mv (.v 1)⟩,
    ⟨some 69, some (59, true), none, .objs [], .mv (.v 9)⟩,
    ⟨some 70, some (59, true), none, .objs [], .iaS 4 (.v 68) (.v 69)⟩,
    ⟨some 71, some (59, true), none, .objs [], .fa 2 (.v 70)⟩,
    ⟨some 72, some (59, true), none, .objs [(.v 71)], .ld false 1 (.v 71)⟩,
    ⟨some 73, some (59, true), none, .cal (.c (.fn (.func 34) [] [])) [(.v 60), (.v 62), (.c (.sc (.int .i64 2))), (.v 67), (.v 72)], .call (.c (.fn (.func 34) [] [])) [(.v 60), (.v 62), (.c (.sc (.int .i64 2))), (.v 67), (.v 72)]⟩,
    ⟨some 74, some (59, true), none, .objs [], .bin .lss false (.v 73) (.c (.sc (.int .i64 0)))⟩,
    ⟨some 75, none, none, .objs [], .pk (.v 59) (.v 74) (.c (.sc (.bool false)))⟩,
    ⟨some 76, none, none, .objs [], .mv (.v 75)⟩,
    ⟨some 77, some (76, true), none, .objs [], .mv (.v 1)⟩] ++ mkL [0, 1, 2, 6, 9, 10, 76, 77] ([
    ⟨some 78, some (76, true), none, .objs [], .mv (.v 9)⟩,
    ⟨some 79, some (76, true), none, .objs [], .iaS 4 (.v 77) (.v 78)⟩,
    ⟨some 80, some (76, true), none, .objs [], .fa 3 (.v 79)⟩,
    ⟨some 81, some (76, true), none, .objs [(.v 80)], .ld false 1 (.v 80)⟩,
    ⟨some 82, some (76, true), none, .objs [], .fa 2 (.v 10)⟩,
    ⟨some 83, some (76, true), none, .objs [(.v 82)], .ld false 1 (.v 82)⟩,
    ⟨some 84, some (76, true), none, .objs [], .bin .add false (.v 81) (.v 83)⟩,
    ⟨some 85, some (76, true), none, .objs [], .mv (.v 2)⟩,
    ⟨some 86, some (76, true), none, .objs [], .bin .leq false (.v 84) (.v 85)⟩,
    ⟨some 87, none, none, .objs [], .pk (.v 76) (.v 86) (.c (.sc (.bool false)))⟩])))) <|
    .cond (.v 87) (.seq (.opsD [] ([
      ⟨some 88, none, none, .objs [], .mv (.v 9)⟩,
      ⟨some 89, none, none, .objs [], .mv (.v 1)⟩,
      ⟨some 90, none, none, .objs [], .mv (.v 9)⟩,
      ⟨some 91, none, none, .objs [], .iaS 4 (.v 89) (.v 90)⟩] ++ mkL [1, 6, 9, 88, 91] ([
      ⟨some 92, none, none, .objs [], .fa 1 (.v 91)⟩,
      ⟨some 93, none, none, .objs [(.v 92)], .ld false 1 (.v 92)⟩,
      ⟨some 94, none, none, .objs [], .mv (.v 1)⟩,
      ⟨some 95, none, none, .objs [], .mv (.v 9)⟩,
      ⟨some 96, none, none, .objs [], .iaS 4 (.v 94) (.v 95)⟩,
      ⟨some 97, none, none, .objs [], .fa 2 (.v 96)⟩,
      ⟨some 98, none, none, .objs [(.v 97)], .ld false 1 (.v 97)⟩,
      ⟨some 99, none, none, .objs [], .bd [(.sc (.int .i64 0)), (.sc (.int .i64 0)), (.sc (.int .i64 0)), (.sc (.int .i64 0))] [(0, 1, (.c (.sc (.int .i64 8)))), (1, 1, (.v 88)), (2, 1, (.v 93)), (3, 1, (.v 98))]⟩,
      ⟨none, none, none, .objs [(.v 6)], .st 4 (.v 6) (.v 99)⟩]))) <|
      .ret) (.nop))) <|
  .ops ([
  ⟨some 41, none, none, .objs [], .mv (.v 9)⟩,
  ⟨some 42, none, none, .objs [], .bin .add false (.v 41) (.c (.sc (.int .i64 1)))⟩,
  ⟨some 9, none, none, .objs [], .mv (.v 42)⟩])
noncomputable def il15l1 : C := il15l1b
theorem il15l1_go {P : Program} {pol : Pol} {K : Oracle} {I : Inl} {n : Nat} {f : FuncId} {R : Xit → FEnv → Heap → Prop} {e : FEnv} {h : Heap} : wc P pol K I n f il15l1 R e h = wc P pol K I n f il15l1b R e h := (fun x => x) rfl

noncomputable def il15c : C :=
  .seq (.ops ([
  ⟨some 6, none, none, .objs [], .nw 4 (.agg [(.sc (.int .i64 0)), (.sc (.int .i64 0)), (.sc (.int .i64 0)), (.sc (.int .i64 0))])⟩])) <|
  .seq (.seq (.ops ([
  ⟨some 7, none, none, .objs [], .mv (.c (.sc (.int .i64 0)))⟩])) <|
  .block 0 (.loop (some [0, 1, 2, 6, 7]) il15l0)) <|
  .seq (.seq (.ops ([
  ⟨some 9, none, none, .objs [], .mv (.c (.sc (.int .i64 0)))⟩])) <|
  .block 2 (.loop (some [0, 1, 2, 6, 9]) il15l1)) <|
  .seq (.ops ([
  ⟨some 100, none, none, .objs [], .bd [(.sc (.int .i64 0)), (.sc (.int .i64 0)), (.sc (.int .i64 0)), (.sc (.int .i64 0))] []⟩,
  ⟨none, none, none, .objs [], .st 4 (.v 6) (.v 100)⟩])) <|
  .ret

theorem il15_eq : cFn Tryd.prog pol 15 = some ⟨101, il15c, [(6, some (true, 4))]⟩ := by kernel_rfl

noncomputable def il21l0b : C :=
  .seq (.ops ([
  ⟨some 22, none, none, .objs [], .bin .lss false (.v 21) (.v 20)⟩])) <|
  .seq (.cond (.v 22) (.nop) (.exit 2)) <|
  .seq (.block 3 (.seq (.ops ([
    ⟨some 23, none, none, .objs [], .iaS 4 (.v 19) (.v 21)⟩,
    ⟨some 24, none, none, .objs [], .ld true 4 (.v 23)⟩,
    ⟨some 10, none, none, .objs [], .nw 4 (.agg [(.sc (.int .i64 0)), (.sc (.int .i64 0)), (.sc (.int .i64 0)), (.sc (.int .i64 0))])⟩,
    ⟨none, none, none, .objs [], .st 4 (.v 10) (.v 24)⟩])) <|
    .seq (.seq (.ops ([
    ⟨some 25, none, none, .objs [], .fa 1 (.v 10)⟩,
    ⟨some 26, none, none, .objs [], .ld false 1 (.v 25)⟩,
    ⟨some 27, none, none, .objs [], .fa 0 (.v 6)⟩,
    ⟨some 28, none, none, .objs [], .ld false 1 (.v 27)⟩,
    ⟨some 29, none, none, .objs [], .bin .eql false (.v 26) (.v 28)⟩,
    ⟨some 30, none, none, .objs [], .mv (.v 29)⟩,
    ⟨some 31, some (30, true), none, .objs [], .fa 0 (.v 10)⟩,
    ⟨some 32, some (30, true), none, .objs [], .ld false 1 (.v 31)⟩,
    ⟨some 33, some (30, true), none, .objs [], .bin .eql false (.v 32) (.c (.sc (.int .i64 1)))⟩] ++ mkL [1, 6, 7, 8, 10, 13, 14, 15, 19, 20, 21, 30, 33] ([
    ⟨some 34, none, none, .objs [], .pk (.v 30) (.v 33) (.c (.sc (.bool false)))⟩]))) <|
    .cond (.v 34) (.ops ([
      ⟨some 35, none, none, .objs [], .mv (.v 7)⟩,
      ⟨some 36, none, none, .objs [], .fa 2 (.v 10)⟩,
      ⟨some 37, none, none, .objs [], .ld false 1 (.v 36)⟩,
      ⟨some 38, none, none, .objs [], .bs false 1 (.sc (.int .i64 0)) 1 [(0, (.v 37))]⟩,
      ⟨some 39, none, none, .objs [], .app 1 8 (.v 35) (.v 38)⟩,
      ⟨some 7, none, none, .objs [], .gmv 1 (.v 39)⟩])) (.nop)) <|
    .seq (.ops ([
    ⟨some 40, none, none, .objs [], .fa 1 (.v 10)⟩,
    ⟨some 41, none, none, .objs [], .ld false 1 (.v 40)⟩,
    ⟨some 42, none, none, .objs [], .fa 0 (.v 6)⟩,
    ⟨some 43, none, none, .objs [], .ld false 1 (.v 42)⟩,
    ⟨some 44, none, none, .objs [], .bin .eql false (.v 41) (.v 43)⟩,
    ⟨some 45, none, none, .objs [], .mv (.v 44)⟩,
    ⟨some 46, some (45, true), none, .objs [], .fa 0 (.v 10)⟩] ++ mkL [1, 6, 7, 8, 10, 13, 14, 15, 19, 20, 21, 45, 46] ([
    ⟨some 47, some (45, true), none, .objs [], .ld false 1 (.v 46)⟩,
    ⟨some 48, some (45, true), none, .objs [], .bin .eql false (.v 47) (.c (.sc (.int .i64 2)))⟩,
    ⟨some 49, none, none, .objs [], .pk (.v 45) (.v 48) (.c (.sc (.bool false)))⟩]))) <|
    .cond (.v 49) (.ops ([
      ⟨some 50, none, none, .objs [], .mv (.v 8)⟩,
      ⟨some 51, none, none, .objs [], .fa 2 (.v 10)⟩,
      ⟨some 52, none, none, .objs [], .ld false 1 (.v 51)⟩,
      ⟨some 53, none, none, .objs [], .bs false 1 (.sc (.int .i64 0)) 1 [(0, (.v 52))]⟩,
      ⟨some 54, none, none, .objs [], .app 1 8 (.v 50) (.v 53)⟩,
      ⟨some 8, none, none, .objs [], .gmv 1 (.v 54)⟩])) (.nop))) <|
  .ops ([
  ⟨some 55, none, none, .objs [], .bin .add false (.v 21) (.c (.sc (.int .i64 1)))⟩,
  ⟨some 21, none, none, .objs [], .mv (.v 55)⟩])
noncomputable def il21l0 : C := il21l0b
theorem il21l0_go {P : Program} {pol : Pol} {K : Oracle} {I : Inl} {n : Nat} {f : FuncId} {R : Xit → FEnv → Heap → Prop} {e : FEnv} {h : Heap} : wc P pol K I n f il21l0 R e h = wc P pol K I n f il21l0b R e h := (fun x => x) rfl

noncomputable def il21l1b : C :=
  .seq (.ops ([
  ⟨some 59, none, none, .objs [], .bin .lss false (.v 58) (.v 57)⟩])) <|
  .seq (.cond (.v 59) (.nop) (.exit 4)) <|
  .seq (.block 5 (.seq (.ops ([
    ⟨some 60, none, none, .objs [], .iaS 1 (.v 56) (.v 58)⟩,
    ⟨some 61, none, none, .objs [], .ld false 1 (.v 60)⟩,
    ⟨some 12, none, none, .objs [], .mv (.v 61)⟩])) <|
    .seq (.ops ([
    ⟨some 62, none, none, .objs [], .fa 3 (.v 6)⟩,
    ⟨some 63, none, none, .objs [], .ld false 1 (.v 62)⟩,
    ⟨some 64, none, none, .objs [], .mv (.v 63)⟩,
    ⟨some 65, some (64, true), none, .objs [], .mv (.v 8)⟩,
    ⟨some 66, some (64, true), none, .objs [], .lenS (.v 65)⟩,
    ⟨some 67, some (64, true), none, .objs [], .bin .gtr false (.v 66) (.c (.sc (.int .i64 0)))⟩,
    ⟨some 68, none, none, .objs [], .pk (.v 64) (.v 67) (.c (.sc (.bool false)))⟩,
    ⟨some 69, none, none, .objs [], .mv (.v 68)⟩,
    ⟨some 70, some (69, true), none, .objs [], .mv (.v 8)⟩,
    ⟨some 71, some (69, true), none, .objs [], .iaS 1 (.v 70) (.c (.sc (.int .i64 0)))⟩] ++ mkL [1, 6, 8, 12, 13, 14, 15, 56, 57, 58, 69, 71] ([
    ⟨some 72, some (69, true), none, .objs [], .ld false 1 (.v 71)⟩,
    ⟨some 73, some (69, true), none, .objs [], .mv (.v 12)⟩,
    ⟨some 74, some (69, true), none, .objs [], .bin .eql false (.v 72) (.v 73)⟩,
    ⟨some 75, none, none, .objs [], .pk (.v 69) (.v 74) (.c (.sc (.bool false)))⟩]))) <|
    .cond (.v 75) (.ops ([
      ⟨some 76, none, none, .objs [], .mv (.v 8)⟩,
      ⟨some 77, none, none, .objs [], .sl 1 (.v 76) (some (.c (.sc (.int .i64 1)))) none none⟩,
      ⟨some 8, none, none, .objs [], .gmv 1 (.v 77)⟩])) (.nop))) <|
  .ops ([
  ⟨some 78, none, none, .objs [], .bin .add false (.v 58) (.c (.sc (.int .i64 1)))⟩,
  ⟨some 58, none, none, .objs [], .mv (.v 78)⟩])
noncomputable def il21l1 : C := il21l1b
theorem il21l1_go {P : Program} {pol : Pol} {K : Oracle} {I : Inl} {n : Nat} {f : FuncId} {R : Xit → FEnv → Heap → Prop} {e : FEnv} {h : Heap} : wc P pol K I n f il21l1 R e h = wc P pol K I n f il21l1b R e h := (fun x => x) rfl

noncomputable def il21l2b : C :=
  .seq (.ops ([
  ⟨some 16, none, none, .objs [], .bin .lss false (.v 15) (.v 14)⟩])) <|
  .seq (.cond (.v 16) (.nop) (.exit 0)) <|
  .seq (.block 1 (.seq (.ops ([
    ⟨some 17, none, none, .objs [], .iaS 4 (.v 13) (.v 15)⟩,
    ⟨some 18, none, none, .objs [], .ld true 4 (.v 17)⟩,
    ⟨some 6, none, none, .objs [], .nw 4 (.agg [(.sc (.int .i64 0)), (.sc (.int .i64 0)), (.sc (.int .i64 0)), (.sc (.bool false))])⟩,
    ⟨none, none, none, .objs [], .st 4 (.v 6) (.v 18)⟩])) <|
    .seq (.ops ([
    ⟨some 7, none, none, .objs [], .gmv 1 (.c (.sc (.slice none 0 0)))⟩,
    ⟨some 8, none, none, .objs [], .gmv 1 (.c (.sc (.slice none 0 0)))⟩])) <|
    .seq (.seq (.ops ([
    ⟨some 19, none, none, .objs [], .mv (.v 1)⟩,
    ⟨some 20, none, none, .objs [], .lenS (.v 19)⟩,
    ⟨some 21, none, none, .objs [], .mv (.c (.sc (.int .i64 0)))⟩])) <|
    .block 2 (.loop (some [1, 6, 7, 8, 13, 14, 15, 19, 20, 21]) il21l0)) <|
    .seq (.seq (.ops ([
    ⟨some 56, none, none, .objs [], .mv (.v 7)⟩,
    ⟨some 57, none, none, .objs [], .lenS (.v 56)⟩,
    ⟨some 58, none, none, .objs [], .mv (.c (.sc (.int .i64 0)))⟩])) <|
    .block 4 (.loop (some [1, 6, 8, 13, 14, 15, 56, 57, 58]) il21l1)) <|
    .seq (.ops ([
    ⟨some 79, none, none, .objs [], .fa 3 (.v 6)⟩,
    ⟨some 80, none, none, .objs [], .ld false 1 (.v 79)⟩,
    ⟨some 81, none, none, .objs [], .mv (.v 80)⟩,
    ⟨some 82, some (81, true), none, .objs [], .mv (.v 8)⟩,
    ⟨some 83, some (81, true), none, .objs [], .lenS (.v 82)⟩,
    ⟨some 84, some (81, true), none, .objs [], .bin .gtr false (.v 83) (.c (.sc (.int .i64 0)))⟩,
    ⟨some 85, none, none, .objs [], .pk (.v 81) (.v 84) (.c (.sc (.bool false)))⟩])) <|
    .cond (.v 85) (.seq (.ops ([
      ⟨some 4, none, none, .objs [], .mv (.c (.sc (.bool false)))⟩])) <|
      .ret) (.nop))) <|
  .ops ([
  ⟨some 86, none, none, .objs [], .bin .add false (.v 15) (.c (.sc (.int .i64 1)))⟩,
  ⟨some 15, none, none, .objs [], .mv (.v 86)⟩])
noncomputable def il21l2 : C := il21l2b
theorem il21l2_go {P : Program} {pol : Pol} {K : Oracle} {I : Inl} {n : Nat} {f : FuncId} {R : Xit → FEnv → Heap → Prop} {e : FEnv} {h : Heap} : wc P pol K I n f il21l2 R e h = wc P pol K I n f il21l2b R e h := (fun x => x) rfl

noncomputable def il21c : C :=
  .seq (.ops ([
  ⟨some 4, none, none, .objs [], .mv (.c (.sc (.bool false)))⟩])) <|
  .seq (.seq (.ops ([
  ⟨some 13, none, none, .objs [], .mv (.v 0)⟩,
  ⟨some 14, none, none, .objs [], .lenS (.v 13)⟩,
  ⟨some 15, none, none, .objs [], .mv (.c (.sc (.int .i64 0)))⟩])) <|
  .block 0 (.loop (some [1, 13, 14, 15]) il21l2)) <|
  .seq (.ops ([
  ⟨some 4, none, none, .objs [], .mv (.c (.sc (.bool true)))⟩])) <|
  .ret

theorem il21_eq : cFn Tryd.prog pol 21 = some ⟨87, il21c, [(4, none)]⟩ := by kernel_rfl

noncomputable def il22c : C :=
  .seq (.ops ([
  ⟨some 2, none, none, .objs [], .mv (.c (.sc (.int .i64 0)))⟩])) <|
  .seq (.seq (.ops ([
  ⟨some 3, none, none, .objs [], .mv (.v 0)⟩,
  ⟨some 4, none, none, .objs [], .lenS (.v 3)⟩,
  ⟨some 5, none, none, .objs [], .bin .eql false (.v 4) (.c (.sc (.int .i64 0)))⟩])) <|
  .cond (.v 5) (.seq (.ops ([
    ⟨some 2, none, none, .objs [], .mv (.c (.sc (.int .i64 0)))⟩])) <|
    .ret) (.nop)) <|
  .seq (.ops ([
  ⟨some 6, none, none, .objs [], .mv (.v 0)⟩,
  ⟨some 7, none, none, .objs [], .mv (.v 0)⟩,
  ⟨some 8, none, none, .objs [], .lenS (.v 7)⟩,
  ⟨some 9, none, none, .objs [], .bin .sub false (.v 8) (.c (.sc (.int .i64 1)))⟩,
  ⟨some 10, none, none, .objs [], .iaS 4 (.v 6) (.v 9)⟩,
  ⟨some 11, none, none, .objs [], .fa 3 (.v 10)⟩,
  ⟨some 12, none, none, .objs [], .ld false 1 (.v 11)⟩,
  ⟨some 2, none, none, .objs [], .mv (.v 12)⟩])) <|
  .ret

theorem il22_eq : cFn Tryd.prog pol 22 = some ⟨13, il22c, [(2, none)]⟩ := by kernel_rfl

noncomputable def il26l0b : C :=
  .seq (.ops ([
  ⟨some 12, none, none, .objs [], .bin .lss false (.v 11) (.v 10)⟩])) <|
  .seq (.cond (.v 12) (.nop) (.exit 0)) <|
  .seq (.block 1 (.seq (.ops ([
    ⟨some 13, none, none, .objs [], .iaS 4 (.v 9) (.v 11)⟩,
    ⟨some 14, none, none, .objs [], .ld true 4 (.v 13)⟩,
    ⟨some 5, none, none, .objs [], .nw 4 (.agg [(.sc (.int .i64 0)), (.sc (.int .i64 0)), (.sc (.int .i64 0)), (.sc (.bool false))])⟩,
    ⟨none, none, none, .objs [], .st 4 (.v 5) (.v 14)⟩])) <|
    .seq (.seq (.ops ([
    ⟨some 15, none, none, .objs [], .fa 0 (.v 5)⟩,
    ⟨some 16, none, none, .objs [], .ld false 1 (.v 15)⟩,
    ⟨some 17, none, none, .objs [], .mv (.v 3)⟩,
    ⟨some 18, none, none, .objs [], .bin .leq false (.v 16) (.v 17)⟩,
    ⟨some 19, none, none, .objs [], .mv (.v 18)⟩,
    ⟨some 20, some (19, false), none, .objs [], .fa 0 (.v 5)⟩,
    ⟨some 21, some (19, false), none, .objs [], .ld false 1 (.v 20)⟩,
    ⟨some 22, some (19, false), none, .objs [], .bin .gtr false (.v 21) (.c (.sc (.int .i64 4095)))⟩,
    ⟨some 23, none, none, .objs [], .pk (.v 19) (.c (.sc (.bool true))) (.v 22)⟩] ++ mkL [5, 9, 10, 11, 23] ([
    ⟨some 24, none, none, .objs [], .mv (.v 23)⟩,
    ⟨some 25, some (24, false), none, .objs [], .fa 1 (.v 5)⟩,
    ⟨some 26, some (24, false), none, .objs [], .ld false 1 (.v 25)⟩,
    ⟨some 27, some (24, false), none, .objs [], .bin .lss false (.v 26) (.c (.sc (.int .i64 0)))⟩,
    ⟨some 28, none, none, .objs [], .pk (.v 24) (.c (.sc (.bool true))) (.v 27)⟩,
    ⟨some 29, none, none, .objs [], .mv (.v 28)⟩,
    ⟨some 30, some (29, false), none, .objs [], .fa 1 (.v 5)⟩,
    ⟨some 31, some (29, false), none, .objs [], .ld false 1 (.v 30)⟩,
    ⟨some 32, some (29, false), none, .objs [], .fa 2 (.v 5)⟩,
    ⟨some 33, some (29, false), none, .objs [], .ld false 1 (.v 32)⟩,
    ⟨some 34, some (29, false), none, .objs [], .bin .gtr false (.v 31) (.v 33)⟩,
    ⟨some 35, none, none, .objs [], .pk (.v 29) (.c (.sc (.bool true))) (.v 34)⟩,
    ⟨some 36, none, none, .objs [], .mv (.v 35)⟩,
    ⟨some 37, some (36, false), none, .objs [], .fa 2 (.v 5)⟩] ++ mkL [5, 9, 10, 11, 36, 37] ([
    ⟨some 38, some (36, false), none, .objs [], .ld false 1 (.v 37)⟩,
    ⟨some 39, some (36, false), none, .objs [], .bin .gtr false (.v 38) (.c (.sc (.int .i64 1099511627776)))⟩,
    ⟨some 40, none, none, .objs [], .pk (.v 36) (.c (.sc (.bool true))) (.v 39)⟩])))) <|
    .cond (.v 40) (.seq (.ops ([
      ⟨some 2, none, none, .objs [], .mv (.c (.sc (.int .i64 541)))⟩])) <|
      .ret) (.nop)) <|
    .ops ([
    ⟨some 41, none, none, .objs [], .fa 0 (.v 5)⟩,
    ⟨some 42, none, none, .objs [], .ld false 1 (.v 41)⟩,
    ⟨some 3, none, none, .objs [], .mv (.v 42)⟩]))) <|
  .ops ([
  ⟨some 43, none, none, .objs [], .bin .add false (.v 11) (.c (.sc (.int .i64 1)))⟩,
  ⟨some 11, none, none, .objs [], .mv (.v 43)⟩])
noncomputable def il26l0 : C := il26l0b
theorem il26l0_go {P : Program} {pol : Pol} {K : Oracle} {I : Inl} {n : Nat} {f : FuncId} {R : Xit → FEnv → Heap → Prop} {e : FEnv} {h : Heap} : wc P pol K I n f il26l0 R e h = wc P pol K I n f il26l0b R e h := (fun x => x) rfl

noncomputable def il26c : C :=
  .seq (.ops ([
  ⟨some 2, none, none, .objs [], .mv (.c (.sc (.int .i64 0)))⟩])) <|
  .seq (.seq (.ops ([
  ⟨some 6, none, none, .objs [], .mv (.v 0)⟩,
  ⟨some 7, none, none, .objs [], .lenS (.v 6)⟩,
  ⟨some 8, none, none, .objs [], .bin .gtr false (.v 7) (.c (.sc (.int .i64 12)))⟩])) <|
  .cond (.v 8) (.seq (.ops ([
    ⟨some 2, none, none, .objs [], .mv (.c (.sc (.int .i64 541)))⟩])) <|
    .ret) (.nop)) <|
  .seq (.ops ([
  ⟨some 3, none, none, .objs [], .mv (.c (.sc (.int .i64 0)))⟩])) <|
  .seq (.seq (.ops ([
  ⟨some 9, none, none, .objs [], .mv (.v 0)⟩,
  ⟨some 10, none, none, .objs [], .lenS (.v 9)⟩,
  ⟨some 11, none, none, .objs [], .mv (.c (.sc (.int .i64 0)))⟩])) <|
  .block 0 (.loop (some [3, 9, 10, 11]) il26l0)) <|
  .seq (.ops ([
  ⟨some 2, none, none, .objs [], .mv (.c (.sc (.int .i64 0)))⟩])) <|
  .ret

theorem il26_eq : cFn Tryd.prog pol 26 = some ⟨44, il26c, [(2, none)]⟩ := by kernel_rfl

noncomputable def il29l0b : C :=
  .seq (.ops ([
  ⟨some 12, none, none, .objs [], .bin .lss false (.v 11) (.v 10)⟩])) <|
  .seq (.cond (.v 12) (.nop) (.exit 0)) <|
  .seq (.block 1 (.seq (.ops ([
    ⟨some 13, none, none, .objs [], .iaS 4 (.v 9) (.v 11)⟩,
    ⟨some 14, none, none, .objs [], .ld true 4 (.v 13)⟩,
    ⟨some 5, none, none, .objs [], .nw 4 (.agg [(.sc (.int .i64 0)), (.sc (.int .i64 0)), (.sc (.int .i64 0)), (.sc (.int .i64 0))])⟩,
    ⟨none, none, none, .objs [], .st 4 (.v 5) (.v 14)⟩])) <|
    .seq (.seq (.ops ([
    ⟨some 15, none, none, .objs [], .fa 0 (.v 5)⟩,
    ⟨some 16, none, none, .objs [], .ld false 1 (.v 15)⟩,
    ⟨some 17, none, none, .objs [], .bin .neq false (.v 16) (.c (.sc (.int .i64 1)))⟩,
    ⟨some 18, none, none, .objs [], .mv (.v 17)⟩,
    ⟨some 19, some (18, true), none, .objs [], .fa 0 (.v 5)⟩,
    ⟨some 20, some (18, true), none, .objs [], .ld false 1 (.v 19)⟩,
    ⟨some 21, some (18, true), none, .objs [], .bin .neq false (.v 20) (.c (.sc (.int .i64 2)))⟩,
    ⟨some 22, none, none, .objs [], .pk (.v 18) (.v 21) (.c (.sc (.bool false)))⟩,
    ⟨some 23, none, none, .objs [], .mv (.v 22)⟩] ++ mkL [3, 5, 9, 10, 11, 23] ([
    ⟨some 24, some (23, false), none, .objs [], .fa 1 (.v 5)⟩,
    ⟨some 25, some (23, false), none, .objs [], .ld false 1 (.v 24)⟩,
    ⟨some 26, some (23, false), none, .objs [], .bin .lss false (.v 25) (.c (.sc (.int .i64 0)))⟩,
    ⟨some 27, none, none, .objs [], .pk (.v 23) (.c (.sc (.bool true))) (.v 26)⟩,
    ⟨some 28, none, none, .objs [], .mv (.v 27)⟩,
    ⟨some 29, some (28, false), none, .objs [], .fa 1 (.v 5)⟩,
    ⟨some 30, some (28, false), none, .objs [], .ld false 1 (.v 29)⟩,
    ⟨some 31, some (28, false), none, .objs [], .bin .gtr false (.v 30) (.c (.sc (.int .i64 4095)))⟩,
    ⟨some 32, none, none, .objs [], .pk (.v 28) (.c (.sc (.bool true))) (.v 31)⟩,
    ⟨some 33, none, none, .objs [], .mv (.v 32)⟩,
    ⟨some 34, some (33, false), none, .objs [], .fa 2 (.v 5)⟩,
    ⟨some 35, some (33, false), none, .objs [], .ld false 1 (.v 34)⟩,
    ⟨some 36, some (33, false), none, .objs [], .bin .lss false (.v 35) (.c (.sc (.int .i64 0)))⟩,
    ⟨some 37, none, none, .objs [], .pk (.v 33) (.c (.sc (.bool true))) (.v 36)⟩] ++ mkL [3, 5, 9, 10, 11, 37] ([
    ⟨some 38, none, none, .objs [], .mv (.v 37)⟩,
    ⟨some 39, some (38, false), none, .objs [], .fa 2 (.v 5)⟩,
    ⟨some 40, some (38, false), none, .objs [], .ld false 1 (.v 39)⟩,
    ⟨some 41, some (38, false), none, .objs [], .bin .geq false (.v 40) (.c (.sc (.int .i64 65536)))⟩,
    ⟨some 42, none, none, .objs [], .pk (.v 38) (.c (.sc (.bool true))) (.v 41)⟩,
    ⟨some 43, none, none, .objs [], .mv (.v 42)⟩,
    ⟨some 44, some (43, false), none, .objs [], .fa 3 (.v 5)⟩,
    ⟨some 45, some (43, false), none, .objs [], .ld false 1 (.v 44)⟩,
    ⟨some 46, some (43, false), none, .objs [], .mv (.v 3)⟩,
    ⟨some 47, some (43, false), none, .objs [], .bin .lss false (.v 45) (.v 46)⟩,
    ⟨some 48, none, none, .objs [], .pk (.v 43) (.c (.sc (.bool true))) (.v 47)⟩,
    ⟨some 49, none, none, .objs [], .mv (.v 48)⟩,
    ⟨some 50, some (49, false), none, .objs [], .fa 3 (.v 5)⟩,
    ⟨some 51, some (49, false), none, .objs [], .ld false 1 (.v 50)⟩] ++ mkL [5, 9, 10, 11, 49, 51] ([
    ⟨some 52, some (49, false), none, .objs [], .bin .gtr false (.v 51) (.c (.sc (.int .i64 1099511627776)))⟩,
    ⟨some 53, none, none, .objs [], .pk (.v 49) (.c (.sc (.bool true))) (.v 52)⟩]))))) <|
    .cond (.v 53) (.seq (.ops ([
      ⟨some 2, none, none, .objs [], .mv (.c (.sc (.int .i64 540)))⟩])) <|
      .ret) (.nop)) <|
    .ops ([
    ⟨some 54, none, none, .objs [], .fa 3 (.v 5)⟩,
    ⟨some 55, none, none, .objs [], .ld false 1 (.v 54)⟩,
    ⟨some 3, none, none, .objs [], .mv (.v 55)⟩]))) <|
  .ops ([
  ⟨some 56, none, none, .objs [], .bin .add false (.v 11) (.c (.sc (.int .i64 1)))⟩,
  ⟨some 11, none, none, .objs [], .mv (.v 56)⟩])
noncomputable def il29l0 : C := il29l0b
theorem il29l0_go {P : Program} {pol : Pol} {K : Oracle} {I : Inl} {n : Nat} {f : FuncId} {R : Xit → FEnv → Heap → Prop} {e : FEnv} {h : Heap} : wc P pol K I n f il29l0 R e h = wc P pol K I n f il29l0b R e h := (fun x => x) rfl

noncomputable def il29c : C :=
  .seq (.ops ([
  ⟨some 2, none, none, .objs [], .mv (.c (.sc (.int .i64 0)))⟩])) <|
  .seq (.seq (.ops ([
  ⟨some 6, none, none, .objs [], .mv (.v 0)⟩,
  ⟨some 7, none, none, .objs [], .lenS (.v 6)⟩,
  ⟨some 8, none, none, .objs [], .bin .gtr false (.v 7) (.c (.sc (.int .i64 4096)))⟩])) <|
  .cond (.v 8) (.seq (.ops ([
    ⟨some 2, none, none, .objs [], .mv (.c (.sc (.int .i64 540)))⟩])) <|
    .ret) (.nop)) <|
  .seq (.ops ([
  ⟨some 3, none, none, .objs [], .mv (.c (.sc (.int .i64 0)))⟩])) <|
  .seq (.seq (.ops ([
  ⟨some 9, none, none, .objs [], .mv (.v 0)⟩,
  ⟨some 10, none, none, .objs [], .lenS (.v 9)⟩,
  ⟨some 11, none, none, .objs [], .mv (.c (.sc (.int .i64 0)))⟩])) <|
  .block 0 (.loop (some [3, 9, 10, 11]) il29l0)) <|
  .seq (.ops ([
  ⟨some 2, none, none, .objs [], .mv (.c (.sc (.int .i64 0)))⟩])) <|
  .ret

theorem il29_eq : cFn Tryd.prog pol 29 = some ⟨57, il29c, [(2, none)]⟩ := by kernel_rfl

noncomputable def il30l0b : C :=
  .seq (.ops ([
  ⟨some 22, none, none, .objs [], .bin .lss false (.v 21) (.c (.sc (.int .i64 7)))⟩])) <|
  .seq (.cond (.v 22) (.nop) (.exit 2)) <|
  .seq (.block 3 (.seq (.ops ([
    ⟨some 23, none, none, .objs [], .ixA true 2 7 2 (.v 20) (.v 21)⟩,
    ⟨some 10, none, none, .objs [], .nw 2 (.agg [(.sc (.int .i64 0)), (.sc .nilFunc)])⟩,
    ⟨none, none, none, .objs [], .st 2 (.v 10) (.v 23)⟩])) <|
    .seq (.ops ([
    ⟨some 24, none, none, .objs [], .fa 1 (.v 10)⟩,
    ⟨some 25, none, none, .objs [], .ld false 1 (.v 24)⟩,
    ⟨some 26, none, none, .objs [], .ld true 4 (.v 8)⟩,
    ⟨some 27, none, none, .objs [], .call (.v 25) [(.v 26)]⟩])) <|
    .cond (.v 27) (.seq (.ops ([
      ⟨some 28, none, none, .objs [], .fa 0 (.v 10)⟩,
      ⟨some 29, none, none, .objs [], .ld false 1 (.v 28)⟩,
      ⟨some 30, none, none, .objs [], .mv (.v 7)⟩,
      ⟨some 31, none, none, .objs [], .fa 1 (.v 8)⟩,
      ⟨some 32, none, none, .objs [], .ld false 1 (.v 31)⟩,
      ⟨some 33, none, none, .objs [], .fa 2 (.v 8)⟩] ++ mkL [4, 5, 29, 30, 32, 33] ([
      ⟨some 34, none, none, .objs [], .ld false 1 (.v 33)⟩,
      ⟨some 35, none, none, .objs [], .bd [(.sc (.int .i64 0)), (.sc (.int .i64 0)), (.sc (.int .i64 0)), (.sc (.int .i64 0))] [(0, 1, (.v 29)), (1, 1, (.v 30)), (2, 1, (.v 32)), (3, 1, (.v 34))]⟩,
      ⟨none, none, none, .objs [], .st 4 (.v 5) (.v 35)⟩]))) <|
      .exit 0) (.nop))) <|
  .ops ([
  ⟨some 36, none, none, .objs [], .bin .add false (.v 21) (.c (.sc (.int .i64 1)))⟩,
  ⟨some 21, none, none, .objs [], .mv (.v 36)⟩])
noncomputable def il30l0 : C := il30l0b
theorem il30l0_go {P : Program} {pol : Pol} {K : Oracle} {I : Inl} {n : Nat} {f : FuncId} {R : Xit → FEnv → Heap → Prop} {e : FEnv} {h : Heap} : wc P pol K I n f il30l0 R e h = wc P pol K I n f il30l0b R e h := (fun x => x) rfl

noncomputable def il30l1b : C :=
  .seq (.ops ([
  ⟨some 16, none, none, .objs [], .bin .lss false (.v 15) (.v 14)⟩])) <|
  .seq (.cond (.v 16) (.nop) (.exit 0)) <|
  .seq (.block 1 (.seq (.ops ([
    ⟨some 17, none, none, .objs [], .mv (.v 15)⟩,
    ⟨some 18, none, none, .objs [], .iaS 4 (.v 13) (.v 15)⟩,
    ⟨some 19, none, none, .objs [], .ld true 4 (.v 18)⟩,
    ⟨some 8, none, none, .objs [], .nw 4 (.agg [(.sc (.int .i64 0)), (.sc (.int .i64 0)), (.sc (.int .i64 0)), (.sc (.int .i64 0))])⟩,
    ⟨some 7, none, none, .objs [], .mv (.v 17)⟩,
    ⟨none, none, none, .objs [], .st 4 (.v 8) (.v 19)⟩])) <|
    .seq (.seq (.ops ([
    ⟨some 20, none, none, .objs [], .ld true 14 (.v 6)⟩,
    ⟨some 21, none, none, .objs [], .mv (.c (.sc (.int .i64 0)))⟩])) <|
    .block 2 (.loop (some [0, 4, 5, 6, 7, 8, 13, 14, 15, 20, 21]) il30l0)) <|
    .ops ([
    ⟨some 37, none, none, .objs [], .mv (.v 0)⟩,
    ⟨some 38, none, none, .objs [], .mv (.v 7)⟩,
    ⟨some 39, none, none, .objs [], .ld true 4 (.v 8)⟩,
    ⟨some 40, none, none, .objs [], .call (.c (.fn (.func 40) [] [])) [(.v 37), (.v 38), (.v 39)]⟩]))) <|
  .ops ([
  ⟨some 41, none, none, .objs [], .bin .add false (.v 15) (.c (.sc (.int .i64 1)))⟩,
  ⟨some 15, none, none, .objs [], .mv (.v 41)⟩])
noncomputable def il30l1 : C := il30l1b
theorem il30l1_go {P : Program} {pol : Pol} {K : Oracle} {I : Inl} {n : Nat} {f : FuncId} {R : Xit → FEnv → Heap → Prop} {e : FEnv} {h : Heap} : wc P pol K I n f il30l1 R e h = wc P pol K I n f il30l1b R e h := (fun x => x) rfl

noncomputable def il30c : C :=
  .seq (.ops ([
  ⟨some 4, none, none, .objs [], .nw 4 (.agg [(.sc (.int .i64 0)), (.sc (.int .i64 0)), (.sc (.int .i64 0)), (.sc (.int .i64 0))])⟩])) <|
  .seq (.ops ([
  ⟨some 5, none, none, .objs [], .nw 4 (.agg [(.sc (.int .i64 0)), (.sc (.int .i64 0)), (.sc (.int .i64 0)), (.sc (.int .i64 0))])⟩])) <|
  .seq (.ops ([
  ⟨some 11, none, none, .objs [], .mv (.v 0)⟩,
  ⟨some 12, none, none, .objs [], .call (.c (.fn (.func 39) [] [])) [(.v 11)]⟩,
  ⟨some 6, none, none, .objs [], .nw 14 (.agg [(.sc (.int .i64 0)), (.sc .nilFunc), (.sc (.int .i64 0)), (.sc .nilFunc), (.sc (.int .i64 0)), (.sc .nilFunc), (.sc (.int .i64 0)), (.sc .nilFunc), (.sc (.int .i64 0)), (.sc .nilFunc), (.sc (.int .i64 0)), (.sc .nilFunc), (.sc (.int .i64 0)), (.sc .nilFunc)])⟩,
  ⟨none, none, none, .objs [], .st 14 (.v 6) (.v 12)⟩])) <|
  .seq (.nop) <|
  .seq (.seq (.ops ([
  ⟨some 13, none, none, .objs [], .mv (.v 1)⟩,
  ⟨some 14, none, none, .objs [], .lenS (.v 13)⟩,
  ⟨some 15, none, none, .objs [], .mv (.c (.sc (.int .i64 0)))⟩])) <|
  .block 0 (.loop (some [0, 4, 5, 6, 13, 14, 15]) il30l1)) <|
  .seq (.ops ([
  ⟨some 42, none, none, .objs [], .ld true 4 (.v 5)⟩,
  ⟨none, none, none, .objs [], .st 4 (.v 4) (.v 42)⟩])) <|
  .ret

theorem il30_eq : cFn Tryd.prog pol 30 = some ⟨43, il30c, [(4, some (true, 4))]⟩ := by kernel_rfl

noncomputable def il31l0b : C :=
  .seq (.ops ([
  ⟨some 12, none, none, .objs [], .bin .lss false (.v 11) (.v 10)⟩])) <|
  .seq (.cond (.v 12) (.nop) (.exit 0)) <|
  .seq (.block 1 (.seq (.ops ([
    ⟨some 13, none, none, .objs [], .mv (.v 11)⟩,
    ⟨some 14, none, none, .objs [], .iaS 4 (.v 9) (.v 11)⟩,
    ⟨some 15, none, none, .objs [], .ld true 4 (.v 14)⟩,
    ⟨some 8, none, none, .objs [], .nw 4 (.agg [(.sc (.int .i64 0)), (.sc (.int .i64 0)), (.sc (.int .i64 0)), (.sc (.int .i64 0))])⟩,
    ⟨some 7, none, none, .objs [], .mv (.v 13)⟩,
    ⟨none, none, none, .objs [], .st 4 (.v 8) (.v 15)⟩])) <|
    .seq (.opsD [(8, 10)] ([
    ⟨some 16, none, none, .objs [], .fa 0 (.v 8)⟩,
    ⟨some 17, none, none, .objs [(.v 16)], .ld false 1 (.v 16)⟩,
    ⟨some 18, none, none, .objs [], .bin .eql false (.v 17) (.c (.sc (.int .i64 1)))⟩,
    ⟨some 19, none, none, .objs [], .mv (.v 18)⟩,
    ⟨some 20, some (19, true), none, .objs [], .mv (.v 0)⟩,
    ⟨some 21, some (19, true), none, .objs [], .nc (.v 20)⟩,
    ⟨some 22, some (19, true), none, .objs [], .fa 0 (.v 21)⟩] ++ mkL [0, 2, 6, 7, 8, 9, 10, 11, 19, 22] ([
    ⟨some 23, some (19, true), none, .objs [], .fa 1 (.v 22)⟩,
    ⟨some 24, some (19, true), none, .objs [(.v 23)], .ld false 1 (.v 23)⟩,
    ⟨some 25, some (19, true), none, .objs [(.v 8)], .ld true 4 (.v 8)⟩,
    ⟨some 26, some (19, true), none, .cal (.c (.fn (.func 35) [] [])) [(.v 25)], .call (.c (.fn (.func 35) [] [])) [(.v 25)]⟩,
    ⟨some 27, some (19, true), none, .objs [(.v 24)], .raw (opOf Tryd.prog 31 4 11)⟩,
    ⟨some 28, some (19, true), none, .objs [], .fd false 1 1 (.v 27)⟩,
    ⟨some 29, some (19, true), none, .objs [], .nt (.v 28)⟩,
    ⟨some 30, none, none, .objs [], .pk (.v 19) (.v 29) (.c (.sc (.bool false)))⟩,
    ⟨some 31, none, none, .objs [], .mv (.v 30)⟩,
    ⟨some 32, some (31, true), none, .objs [], .fa 3 (.v 8)⟩,
    ⟨some 33, some (31, true), none, .objs [(.v 32)], .ld false 1 (.v 32)⟩,
    ⟨some 34, some (31, true), none, .objs [], .mv (.v 0)⟩,
    ⟨some 35, some (31, true), none, .objs [], .nc (.v 34)⟩,
    ⟨some 36, some (31, true), none, .objs [], .fa 0 (.v 35)⟩] ++ mkL [0, 2, 6, 7, 8, 9, 10, 11, 31, 33, 36] ([
    ⟨some 37, some (31, true), none, .objs [], .fa 0 (.v 36)⟩,
    ⟨some 38, some (31, true), none, .objs [(.v 37)], .ld false 1 (.v 37)⟩,
    ⟨some 39, some (31, true), none, .objs [], .fa 1 (.v 8)⟩,
    ⟨some 40, some (31, true), none, .objs [(.v 39)], .ld false 1 (.v 39)⟩,
    ⟨some 41, some (31, true), none, .objs [(.v 38)], .raw (opOf Tryd.prog 31 4 25)⟩,
    ⟨some 42, some (31, true), none, .objs [], .fd false 1 2 (.v 41)⟩,
    ⟨some 43, some (31, true), none, .objs [], .bin .add false (.v 33) (.v 42)⟩,
    ⟨some 44, some (31, true), none, .objs [], .mv (.v 2)⟩,
    ⟨some 45, some (31, true), none, .objs [], .bin .leq false (.v 43) (.v 44)⟩,
    ⟨some 46, none, none, .objs [], .pk (.v 31) (.v 45) (.c (.sc (.bool false)))⟩])))) <|
    .cond (.v 46) (.seq (.ops ([
      ⟨some 47, none, none, .objs [], .mv (.v 7)⟩,
      ⟨some 48, none, none, .objs [], .fa 1 (.v 8)⟩,
      ⟨some 49, none, none, .objs [], .ld false 1 (.v 48)⟩,
      ⟨some 50, none, none, .objs [], .fa 2 (.v 8)⟩] ++ mkL [6, 47, 49, 50] ([
      ⟨some 51, none, none, .objs [], .ld false 1 (.v 50)⟩,
      ⟨some 52, none, none, .objs [], .bd [(.sc (.int .i64 0)), (.sc (.int .i64 0)), (.sc (.int .i64 0)), (.sc (.int .i64 0))] [(0, 1, (.c (.sc (.int .i64 8)))), (1, 1, (.v 47)), (2, 1, (.v 49)), (3, 1, (.v 51))]⟩,
      ⟨none, none, none, .objs [], .st 4 (.v 6) (.v 52)⟩]))) <|
      .ret) (.nop))) <|
  .ops ([
  ⟨some 53, none, none, .objs [], .bin .add false (.v 11) (.c (.sc (.int .i64 1)))⟩,
  ⟨some 11, none, none, .objs [], .mv (.v 53)⟩])
noncomputable def il31l0 : C := il31l0b
theorem il31l0_go {P : Program} {pol : Pol} {K : Oracle} {I : Inl} {n : Nat} {f : FuncId} {R : Xit → FEnv → Heap → Prop} {e : FEnv} {h : Heap} : wc P pol K I n f il31l0 R e h = wc P pol K I n f il31l0b R e h := (fun x => x) rfl

noncomputable def il31c : C :=
  .seq (.ops ([
  ⟨some 6, none, none, .objs [], .nw 4 (.agg [(.sc (.int .i64 0)), (.sc (.int .i64 0)), (.sc (.int .i64 0)), (.sc (.int .i64 0))])⟩])) <|
  .seq (.seq (.ops ([
  ⟨some 9, none, none, .objs [], .mv (.v 1)⟩,
  ⟨some 10, none, none, .objs [], .lenS (.v 9)⟩,
  ⟨some 11, none, none, .objs [], .mv (.c (.sc (.int .i64 0)))⟩])) <|
  .block 0 (.loop (some [0, 2, 6, 9, 10, 11]) il31l0)) <|
  .seq (.ops ([
  ⟨some 54, none, none, .objs [], .bd [(.sc (.int .i64 0)), (.sc (.int .i64 0)), (.sc (.int .i64 0)), (.sc (.int .i64 0))] []⟩,
  ⟨none, none, none, .objs [], .st 4 (.v 6) (.v 54)⟩])) <|
  .ret

theorem il31_eq : cFn Tryd.prog pol 31 = some ⟨55, il31c, [(6, some (true, 4))]⟩ := by kernel_rfl
theorem raw31_4_11 {e : FEnv} {h : Heap} : iStep Tryd.prog pol 31 e h (.raw (opOf Tryd.prog 31 4 11)) = vOf h (lkV Tryd.prog 75 false h (Src.get e (.v 24)) (Src.get e (.v 26))) := raw_lookup (x := (.tmp 24)) (ix := (.tmp 26)) (by kernel_rfl)
theorem raw31_4_25 {e : FEnv} {h : Heap} : iStep Tryd.prog pol 31 e h (.raw (opOf Tryd.prog 31 4 25)) = vOf h (lkV Tryd.prog 74 false h (Src.get e (.v 38)) (Src.get e (.v 40))) := raw_lookup (x := (.tmp 38)) (ix := (.tmp 40)) (by kernel_rfl)

noncomputable def il32l0b : C :=
  .seq (.seq (.ops ([
  ⟨some 69, none, none, .objs [], .mv (.v 11)⟩,
  ⟨some 70, none, none, .objs [], .mv (.v 2)⟩,
  ⟨some 71, none, none, .objs [], .bin .lss false (.v 69) (.v 70)⟩])) <|
  .cond (.v 71) (.nop) (.exit 0)) <|
  .seq (.block 1 (.seq (.opsD [] ([
    ⟨some 74, none, none, .objs [], .fa 3 (.v 8)⟩,
    ⟨some 75, none, none, .objs [(.v 74)], .ld false 1 (.v 74)⟩,
    ⟨some 76, none, none, .objs [], .mv (.v 75)⟩,
    ⟨some 77, some (76, true), none, .objs [], .mv (.v 1)⟩,
    ⟨some 78, some (76, true), none, .objs [], .mv (.v 11)⟩,
    ⟨some 79, some (76, true), none, .objs [], .iaS 4 (.v 77) (.v 78)⟩,
    ⟨some 80, some (76, true), none, .objs [], .fa 0 (.v 79)⟩,
    ⟨some 81, some (76, true), none, .objs [(.v 80)], .ld false 1 (.v 80)⟩,
    ⟨some 82, some (76, true), none, .objs [], .bin .eql false (.v 81) (.c (.sc (.int .i64 2)))⟩,
    ⟨some 83, none, none, .objs [], .pk (.v 76) (.v 82) (.c (.sc (.bool false)))⟩,
    ⟨some 84, none, none, .objs [], .mv (.v 83)⟩] ++ mkL [1, 2, 7, 8, 10, 11, 84] ([
    ⟨some 85, some (84, true), none, .objs [], .mv (.v 1)⟩,
    ⟨some 86, some (84, true), none, .objs [], .mv (.v 11)⟩,
    ⟨some 87, some (84, true), none, .objs [], .iaS 4 (.v 85) (.v 86)⟩,
    ⟨some 88, some (84, true), none, .objs [], .fa 1 (.v 87)⟩,
    ⟨some 89, some (84, true), none, .objs [(.v 88)], .ld false 1 (.v 88)⟩,
    ⟨some 90, some (84, true), none, .objs [], .fa 1 (.v 7)⟩,
    ⟨some 91, some (84, true), none, .objs [(.v 90)], .ld false 1 (.v 90)⟩,
    ⟨some 92, some (84, true), none, .objs [], .bin .eql false (.v 89) (.v 91)⟩,
    ⟨some 93, none, none, .objs [], .pk (.v 84) (.v 92) (.c (.sc (.bool false)))⟩,
    ⟨some 94, none, none, .objs [], .mv (.v 93)⟩,
    ⟨some 95, some (94, true), none, .objs [], .mv (.v 1)⟩,
    ⟨some 96, some (94, true), none, .objs [], .mv (.v 2)⟩,
    ⟨some 97, some (94, true), none, .objs [], .fa 1 (.v 7)⟩,
    ⟨some 98, some (94, true), none, .objs [(.v 97)], .ld false 1 (.v 97)⟩] ++ mkL [1, 2, 7, 8, 10, 11, 94, 95, 96, 98] ([
    ⟨some 99, some (94, true), none, .objs [], .mv (.v 1)⟩,
    ⟨some 100, some (94, true), none, .objs [], .mv (.v 11)⟩,
    ⟨some 101, some (94, true), none, .objs [], .iaS 4 (.v 99) (.v 100)⟩,
    ⟨some 102, some (94, true), none, .objs [], .fa 2 (.v 101)⟩,
    ⟨some 103, some (94, true), none, .objs [(.v 102)], .ld false 1 (.v 102)⟩,
    ⟨some 104, some (94, true), none, .cal (.c (.fn (.func 34) [] [])) [(.v 95), (.v 96), (.c (.sc (.int .i64 1))), (.v 98), (.v 103)], .call (.c (.fn (.func 34) [] [])) [(.v 95), (.v 96), (.c (.sc (.int .i64 1))), (.v 98), (.v 103)]⟩,
    ⟨some 105, some (94, true), none, .objs [], .mv (.v 10)⟩,
    ⟨some 106, some (94, true), none, .objs [], .bin .gtr false (.v 104) (.v 105)⟩,
    ⟨some 107, none, none, .objs [], .pk (.v 94) (.v 106) (.c (.sc (.bool false)))⟩])))) <|
    .cond (.v 107) (.seq (.ops ([
      ⟨some 6, none, none, .objs [], .mv (.c (.sc (.int .i64 7)))⟩])) <|
      .ret) (.nop))) <|
  .ops ([
  ⟨some 72, none, none, .objs [], .mv (.v 11)⟩,
  ⟨some 73, none, none, .objs [], .bin .add false (.v 72) (.c (.sc (.int .i64 1)))⟩,
  ⟨some 11, none, none, .objs [], .mv (.v 73)⟩])
noncomputable def il32l0 : C := il32l0b
theorem il32l0_go {P : Program} {pol : Pol} {K : Oracle} {I : Inl} {n : Nat} {f : FuncId} {R : Xit → FEnv → Heap → Prop} {e : FEnv} {h : Heap} : wc P pol K I n f il32l0 R e h = wc P pol K I n f il32l0b R e h := (fun x => x) rfl

noncomputable def il32c : C :=
  .seq (.ops ([
  ⟨some 6, none, none, .objs [], .mv (.c (.sc (.int .i64 0)))⟩])) <|
  .seq (.ops ([
  ⟨some 12, none, none, .objs [], .mv (.v 1)⟩,
  ⟨some 13, none, none, .objs [], .mv (.v 2)⟩,
  ⟨some 14, none, none, .objs [], .iaS 4 (.v 12) (.v 13)⟩,
  ⟨some 15, none, none, .objs [], .ld true 4 (.v 14)⟩,
  ⟨some 7, none, none, .objs [], .nw 4 (.agg [(.sc (.int .i64 0)), (.sc (.int .i64 0)), (.sc (.int .i64 0)), (.sc (.int .i64 0))])⟩,
  ⟨none, none, none, .objs [], .st 4 (.v 7) (.v 15)⟩])) <|
  .seq (.ops ([
  ⟨some 17, none, none, .objs [], .mv (.v 0)⟩,
  ⟨some 18, none, none, .objs [], .fa 1 (.v 7)⟩,
  ⟨some 19, none, none, .objs [], .ld false 1 (.v 18)⟩,
  ⟨some 20, none, none, .objs [], .call (.c (.fn (.func 33) [] [])) [(.v 17), (.v 19)]⟩,
  ⟨some 16, none, none, .objs [], .mv (.v 20)⟩,
  ⟨some 21, none, none, .objs [], .ex (.v 16) 0⟩,
  ⟨some 22, none, none, .objs [], .ex (.v 16) 1⟩] ++ mkL [1, 2, 7, 21, 22] ([
  ⟨some 8, none, none, .objs [], .nw 4 (.agg [(.sc (.int .i64 0)), (.sc (.int .i64 0)), (.sc (.int .i64 0)), (.sc (.bool false))])⟩,
  ⟨none, none, none, .objs [], .st 4 (.v 8) (.v 21)⟩,
  ⟨some 9, none, none, .objs [], .mv (.v 22)⟩]))) <|
  .seq (.seq (.ops ([
  ⟨some 23, none, none, .objs [], .mv (.v 9)⟩,
  ⟨some 24, none, none, .objs [], .nt (.v 23)⟩])) <|
  .cond (.v 24) (.seq (.ops ([
    ⟨some 6, none, none, .objs [], .mv (.c (.sc (.int .i64 1)))⟩])) <|
    .ret) (.nop)) <|
  .seq (.ops ([
  ⟨some 25, none, none, .objs [], .mv (.v 1)⟩,
  ⟨some 26, none, none, .objs [], .mv (.v 2)⟩,
  ⟨some 27, none, none, .objs [], .fa 1 (.v 7)⟩,
  ⟨some 28, none, none, .objs [], .ld false 1 (.v 27)⟩,
  ⟨some 29, none, none, .objs [], .fa 2 (.v 7)⟩,
  ⟨some 30, none, none, .objs [], .ld false 1 (.v 29)⟩,
  ⟨some 31, none, none, .objs [], .call (.c (.fn (.func 34) [] [])) [(.v 25), (.v 26), (.c (.sc (.int .i64 1))), (.v 28), (.v 30)]⟩,
  ⟨some 10, none, none, .objs [], .mv (.v 31)⟩])) <| mkC [1, 2, 7, 8, 10] <|
  .seq (.seq (.ops ([
  ⟨some 32, none, none, .objs [], .fa 0 (.v 7)⟩,
  ⟨some 33, none, none, .objs [], .ld false 1 (.v 32)⟩,
  ⟨some 34, none, none, .objs [], .bin .eql false (.v 33) (.c (.sc (.int .i64 1)))⟩])) <|
  .cond (.v 34) (.seq (.seq (.ops ([
    ⟨some 35, none, none, .objs [], .mv (.v 10)⟩,
    ⟨some 36, none, none, .objs [], .bin .geq false (.v 35) (.c (.sc (.int .i64 0)))⟩])) <|
    .cond (.v 36) (.seq (.ops ([
      ⟨some 6, none, none, .objs [], .mv (.c (.sc (.int .i64 2)))⟩])) <|
      .ret) (.nop)) <|
    .seq (.ops ([
    ⟨some 6, none, none, .objs [], .mv (.c (.sc (.int .i64 0)))⟩])) <|
    .ret) (.nop)) <|
  .seq (.seq (.ops ([
  ⟨some 37, none, none, .objs [], .mv (.v 10)⟩,
  ⟨some 38, none, none, .objs [], .bin .lss false (.v 37) (.c (.sc (.int .i64 0)))⟩])) <|
  .cond (.v 38) (.seq (.ops ([
    ⟨some 6, none, none, .objs [], .mv (.c (.sc (.int .i64 3)))⟩])) <|
    .ret) (.nop)) <|
  .seq (.seq (.ops ([
  ⟨some 39, none, none, .objs [], .mv (.v 1)⟩,
  ⟨some 40, none, none, .objs [], .mv (.v 2)⟩,
  ⟨some 41, none, none, .objs [], .fa 1 (.v 7)⟩,
  ⟨some 42, none, none, .objs [], .ld false 1 (.v 41)⟩] ++ mkL [1, 2, 7, 8, 10, 39, 40, 42] ([
  ⟨some 43, none, none, .objs [], .fa 2 (.v 7)⟩,
  ⟨some 44, none, none, .objs [], .ld false 1 (.v 43)⟩,
  ⟨some 45, none, none, .objs [], .call (.c (.fn (.func 34) [] [])) [(.v 39), (.v 40), (.c (.sc (.int .i64 2))), (.v 42), (.v 44)]⟩,
  ⟨some 46, none, none, .objs [], .bin .geq false (.v 45) (.c (.sc (.int .i64 0)))⟩]))) <|
  .cond (.v 46) (.seq (.ops ([
    ⟨some 6, none, none, .objs [], .mv (.c (.sc (.int .i64 4)))⟩])) <|
    .ret) (.nop)) <|
  .seq (.seq (.opsD [] ([
  ⟨some 47, none, none, .objs [], .fa 3 (.v 7)⟩,
  ⟨some 48, none, none, .objs [(.v 47)], .ld false 1 (.v 47)⟩,
  ⟨some 49, none, none, .objs [], .mv (.v 1)⟩,
  ⟨some 50, none, none, .objs [], .mv (.v 10)⟩,
  ⟨some 51, none, none, .objs [], .iaS 4 (.v 49) (.v 50)⟩,
  ⟨some 52, none, none, .objs [], .fa 3 (.v 51)⟩,
  ⟨some 53, none, none, .objs [(.v 52)], .ld false 1 (.v 52)⟩,
  ⟨some 54, none, none, .objs [], .bin .sub false (.v 48) (.v 53)⟩,
  ⟨some 55, none, none, .objs [], .fa 1 (.v 8)⟩] ++ mkL [1, 2, 7, 8, 10, 54, 55] ([
  ⟨some 56, none, none, .objs [(.v 55)], .ld false 1 (.v 55)⟩,
  ⟨some 57, none, none, .objs [], .bin .lss false (.v 54) (.v 56)⟩]))) <|
  .cond (.v 57) (.seq (.ops ([
    ⟨some 6, none, none, .objs [], .mv (.c (.sc (.int .i64 5)))⟩])) <|
    .ret) (.nop)) <|
  .seq (.seq (.opsD [] ([
  ⟨some 58, none, none, .objs [], .fa 3 (.v 7)⟩,
  ⟨some 59, none, none, .objs [(.v 58)], .ld false 1 (.v 58)⟩,
  ⟨some 60, none, none, .objs [], .mv (.v 1)⟩,
  ⟨some 61, none, none, .objs [], .mv (.v 10)⟩,
  ⟨some 62, none, none, .objs [], .iaS 4 (.v 60) (.v 61)⟩,
  ⟨some 63, none, none, .objs [], .fa 3 (.v 62)⟩,
  ⟨some 64, none, none, .objs [(.v 63)], .ld false 1 (.v 63)⟩,
  ⟨some 65, none, none, .objs [], .bin .sub false (.v 59) (.v 64)⟩,
  ⟨some 66, none, none, .objs [], .fa 2 (.v 8)⟩,
  ⟨some 67, none, none, .objs [(.v 66)], .ld false 1 (.v 66)⟩,
  ⟨some 68, none, none, .objs [], .bin .gtr false (.v 65) (.v 67)⟩])) <| mkC [1, 2, 7, 8, 10, 68] <|
  .cond (.v 68) (.seq (.ops ([
    ⟨some 6, none, none, .objs [], .mv (.c (.sc (.int .i64 6)))⟩])) <|
    .ret) (.nop)) <|
  .seq (.seq (.ops ([
  ⟨some 11, none, none, .objs [], .mv (.c (.sc (.int .i64 0)))⟩])) <|
  .block 0 (.loop (some [1, 2, 7, 8, 10, 11]) il32l0)) <|
  .seq (.ops ([
  ⟨some 6, none, none, .objs [], .mv (.c (.sc (.int .i64 0)))⟩])) <|
  .ret

theorem il32_eq : cFn Tryd.prog pol 32 = some ⟨108, il32c, [(6, none)]⟩ := by kernel_rfl

noncomputable def il33l0b : C :=
  .seq (.seq (.ops ([
  ⟨some 7, none, none, .objs [], .mv (.v 6)⟩,
  ⟨some 8, none, none, .objs [], .mv (.v 0)⟩,
  ⟨some 9, none, none, .objs [], .lenS (.v 8)⟩,
  ⟨some 10, none, none, .objs [], .bin .lss false (.v 7) (.v 9)⟩])) <|
  .cond (.v 10) (.nop) (.exit 0)) <|
  .seq (.block 1 (.seq (.ops ([
    ⟨some 13, none, none, .objs [], .mv (.v 0)⟩,
    ⟨some 14, none, none, .objs [], .mv (.v 6)⟩,
    ⟨some 15, none, none, .objs [], .iaS 4 (.v 13) (.v 14)⟩,
    ⟨some 16, none, none, .objs [], .fa 0 (.v 15)⟩,
    ⟨some 17, none, none, .objs [], .ld false 1 (.v 16)⟩,
    ⟨some 18, none, none, .objs [], .mv (.v 1)⟩,
    ⟨some 19, none, none, .objs [], .bin .eql false (.v 17) (.v 18)⟩])) <|
    .cond (.v 19) (.seq (.ops ([
      ⟨some 20, none, none, .objs [], .mv (.v 0)⟩,
      ⟨some 21, none, none, .objs [], .mv (.v 6)⟩,
      ⟨some 22, none, none, .objs [], .iaS 4 (.v 20) (.v 21)⟩] ++ mkL [4, 22] ([
      ⟨some 23, none, none, .objs [], .ld true 4 (.v 22)⟩,
      ⟨none, none, none, .objs [], .st 4 (.v 4) (.v 23)⟩,
      ⟨some 5, none, none, .objs [], .mv (.c (.sc (.bool true)))⟩]))) <|
      .ret) (.nop))) <|
  .ops ([
  ⟨some 11, none, none, .objs [], .mv (.v 6)⟩,
  ⟨some 12, none, none, .objs [], .bin .add false (.v 11) (.c (.sc (.int .i64 1)))⟩,
  ⟨some 6, none, none, .objs [], .mv (.v 12)⟩])
noncomputable def il33l0 : C := il33l0b
theorem il33l0_go {P : Program} {pol : Pol} {K : Oracle} {I : Inl} {n : Nat} {f : FuncId} {R : Xit → FEnv → Heap → Prop} {e : FEnv} {h : Heap} : wc P pol K I n f il33l0 R e h = wc P pol K I n f il33l0b R e h := (fun x => x) rfl

noncomputable def il33c : C :=
  .seq (.ops ([
  ⟨some 4, none, none, .objs [], .nw 4 (.agg [(.sc (.int .i64 0)), (.sc (.int .i64 0)), (.sc (.int .i64 0)), (.sc (.bool false))])⟩,
  ⟨some 5, none, none, .objs [], .mv (.c (.sc (.bool false)))⟩])) <|
  .seq (.seq (.ops ([
  ⟨some 6, none, none, .objs [], .mv (.c (.sc (.int .i64 0)))⟩])) <|
  .block 0 (.loop (some [0, 1, 4, 6]) il33l0)) <|
  .seq (.ops ([
  ⟨some 24, none, none, .objs [], .bd [(.sc (.int .i64 0)), (.sc (.int .i64 0)), (.sc (.int .i64 0)), (.sc (.bool false))] []⟩,
  ⟨none, none, none, .objs [], .st 4 (.v 4) (.v 24)⟩,
  ⟨some 5, none, none, .objs [], .mv (.c (.sc (.bool false)))⟩])) <|
  .ret

theorem il33_eq : cFn Tryd.prog pol 33 = some ⟨25, il33c, [(4, some (true, 4)), (5, none)]⟩ := by kernel_rfl

noncomputable def il34l0b : C :=
  .seq (.seq (.ops ([
  ⟨some 12, none, none, .objs [], .mv (.v 11)⟩,
  ⟨some 13, none, none, .objs [], .mv (.v 1)⟩,
  ⟨some 14, none, none, .objs [], .bin .lss false (.v 12) (.v 13)⟩])) <|
  .cond (.v 14) (.nop) (.exit 0)) <|
  .seq (.block 1 (.seq (.ops ([
    ⟨some 17, none, none, .objs [], .mv (.v 0)⟩,
    ⟨some 18, none, none, .objs [], .mv (.v 11)⟩,
    ⟨some 19, none, none, .objs [], .iaS 4 (.v 17) (.v 18)⟩,
    ⟨some 20, none, none, .objs [], .fa 0 (.v 19)⟩,
    ⟨some 21, none, none, .objs [], .ld false 1 (.v 20)⟩,
    ⟨some 22, none, none, .objs [], .mv (.v 2)⟩,
    ⟨some 23, none, none, .objs [], .bin .eql false (.v 21) (.v 22)⟩,
    ⟨some 24, none, none, .objs [], .mv (.v 23)⟩,
    ⟨some 25, some (24, true), none, .objs [], .mv (.v 0)⟩,
    ⟨some 26, some (24, true), none, .objs [], .mv (.v 11)⟩,
    ⟨some 27, some (24, true), none, .objs [], .iaS 4 (.v 25) (.v 26)⟩] ++ mkL [0, 1, 2, 3, 4, 11, 24, 27] ([
    ⟨some 28, some (24, true), none, .objs [], .fa 1 (.v 27)⟩,
    ⟨some 29, some (24, true), none, .objs [], .ld false 1 (.v 28)⟩,
    ⟨some 30, some (24, true), none, .objs [], .mv (.v 3)⟩,
    ⟨some 31, some (24, true), none, .objs [], .bin .eql false (.v 29) (.v 30)⟩,
    ⟨some 32, none, none, .objs [], .pk (.v 24) (.v 31) (.c (.sc (.bool false)))⟩,
    ⟨some 33, none, none, .objs [], .mv (.v 32)⟩,
    ⟨some 34, some (33, true), none, .objs [], .mv (.v 0)⟩,
    ⟨some 35, some (33, true), none, .objs [], .mv (.v 11)⟩,
    ⟨some 36, some (33, true), none, .objs [], .iaS 4 (.v 34) (.v 35)⟩,
    ⟨some 37, some (33, true), none, .objs [], .fa 2 (.v 36)⟩,
    ⟨some 38, some (33, true), none, .objs [], .ld false 1 (.v 37)⟩,
    ⟨some 39, some (33, true), none, .objs [], .mv (.v 4)⟩,
    ⟨some 40, some (33, true), none, .objs [], .bin .eql false (.v 38) (.v 39)⟩,
    ⟨some 41, none, none, .objs [], .pk (.v 33) (.v 40) (.c (.sc (.bool false)))⟩]))) <| mkC [0, 1, 2, 3, 4, 11, 41] <|
    .cond (.v 41) (.seq (.ops ([
      ⟨some 42, none, none, .objs [], .mv (.v 11)⟩,
      ⟨some 10, none, none, .objs [], .mv (.v 42)⟩])) <|
      .ret) (.nop))) <|
  .ops ([
  ⟨some 15, none, none, .objs [], .mv (.v 11)⟩,
  ⟨some 16, none, none, .objs [], .bin .add false (.v 15) (.c (.sc (.int .i64 1)))⟩,
  ⟨some 11, none, none, .objs [], .mv (.v 16)⟩])
noncomputable def il34l0 : C := il34l0b
theorem il34l0_go {P : Program} {pol : Pol} {K : Oracle} {I : Inl} {n : Nat} {f : FuncId} {R : Xit → FEnv → Heap → Prop} {e : FEnv} {h : Heap} : wc P pol K I n f il34l0 R e h = wc P pol K I n f il34l0b R e h := (fun x => x) rfl

noncomputable def il34c : C :=
  .seq (.ops ([
  ⟨some 10, none, none, .objs [], .mv (.c (.sc (.int .i64 0)))⟩])) <|
  .seq (.seq (.ops ([
  ⟨some 11, none, none, .objs [], .mv (.c (.sc (.int .i64 0)))⟩])) <|
  .block 0 (.loop (some [0, 1, 2, 3, 4, 11]) il34l0)) <|
  .seq (.ops ([
  ⟨some 10, none, none, .objs [], .mv (.c (.sc (.int .i64 (-1))))⟩])) <|
  .ret

theorem il34_eq : cFn Tryd.prog pol 34 = some ⟨43, il34c, [(10, none)]⟩ := by kernel_rfl

noncomputable def il35c : C :=
  .seq (.ops ([
  ⟨some 1, none, none, .objs [], .bx false (.v 0)⟩,
  ⟨some 2, none, none, .objs [], .nw 2 (.agg [(.sc (.int .i64 0)), (.sc (.int .i64 0))])⟩])) <|
  .seq (.ops ([
  ⟨some 3, none, none, .objs [], .fa 1 (.v 1)⟩,
  ⟨some 4, none, none, .objs [], .ld false 1 (.v 3)⟩,
  ⟨some 5, none, none, .objs [], .fa 2 (.v 1)⟩,
  ⟨some 6, none, none, .objs [], .ld false 1 (.v 5)⟩,
  ⟨some 7, none, none, .objs [], .bd [(.sc (.int .i64 0)), (.sc (.int .i64 0))] [(0, 1, (.v 4)), (1, 1, (.v 6))]⟩,
  ⟨none, none, none, .objs [], .st 2 (.v 2) (.v 7)⟩])) <|
  .ret

theorem il35_eq : cFn Tryd.prog pol 35 = some ⟨8, il35c, [(2, some (true, 2))]⟩ := by kernel_rfl

noncomputable def il39c : C :=
  .seq (.ops ([
  ⟨some 1, none, none, .objs [], .bx false (.v 0)⟩,
  ⟨some 2, none, none, .objs [], .nw 14 (.agg [(.sc (.int .i64 0)), (.sc .nilFunc), (.sc (.int .i64 0)), (.sc .nilFunc), (.sc (.int .i64 0)), (.sc .nilFunc), (.sc (.int .i64 0)), (.sc .nilFunc), (.sc (.int .i64 0)), (.sc .nilFunc), (.sc (.int .i64 0)), (.sc .nilFunc), (.sc (.int .i64 0)), (.sc .nilFunc)])⟩])) <|
  .seq (.ops ([
  ⟨some 3, none, none, .objs [], .ld false 1 (.v 1)⟩,
  ⟨some 4, none, none, .objs [], .fn 43 [(.v 3)] []⟩,
  ⟨some 5, none, none, .objs [], .bd [(.sc (.int .i64 0)), (.sc .nilFunc)] [(0, 1, (.c (.sc (.int .i64 1)))), (1, 1, (.v 4))]⟩,
  ⟨some 6, none, none, .objs [], .fn 44 [] [(.v 1)]⟩,
  ⟨some 7, none, none, .objs [], .bd [(.sc (.int .i64 0)), (.sc .nilFunc)] [(0, 1, (.c (.sc (.int .i64 2)))), (1, 1, (.v 6))]⟩,
  ⟨some 8, none, none, .objs [], .fn 45 [] [(.v 1)]⟩,
  ⟨some 9, none, none, .objs [], .bd [(.sc (.int .i64 0)), (.sc .nilFunc)] [(0, 1, (.c (.sc (.int .i64 3)))), (1, 1, (.v 8))]⟩,
  ⟨some 10, none, none, .objs [], .fn 46 [] [(.v 1)]⟩,
  ⟨some 11, none, none, .objs [], .bd [(.sc (.int .i64 0)), (.sc .nilFunc)] [(0, 1, (.c (.sc (.int .i64 4)))), (1, 1, (.v 10))]⟩,
  ⟨some 12, none, none, .objs [], .fn 47 [] [(.v 1)]⟩,
  ⟨some 13, none, none, .objs [], .bd [(.sc (.int .i64 0)), (.sc .nilFunc)] [(0, 1, (.c (.sc (.int .i64 5)))), (1, 1, (.v 12))]⟩,
  ⟨some 14, none, none, .objs [], .fn 48 [] [(.v 1)]⟩] ++ mkL [1, 2, 5, 7, 9, 11, 13, 14] ([
  ⟨some 15, none, none, .objs [], .bd [(.sc (.int .i64 0)), (.sc .nilFunc)] [(0, 1, (.c (.sc (.int .i64 6)))), (1, 1, (.v 14))]⟩,
  ⟨some 16, none, none, .objs [], .ld false 1 (.v 1)⟩,
  ⟨some 17, none, none, .objs [], .fn 49 [(.v 16)] []⟩,
  ⟨some 18, none, none, .objs [], .bd [(.sc (.int .i64 0)), (.sc .nilFunc)] [(0, 1, (.c (.sc (.int .i64 7)))), (1, 1, (.v 17))]⟩,
  ⟨some 19, none, none, .objs [], .bd [(.sc (.int .i64 0)), (.sc .nilFunc), (.sc (.int .i64 0)), (.sc .nilFunc), (.sc (.int .i64 0)), (.sc .nilFunc), (.sc (.int .i64 0)), (.sc .nilFunc), (.sc (.int .i64 0)), (.sc .nilFunc), (.sc (.int .i64 0)), (.sc .nilFunc), (.sc (.int .i64 0)), (.sc .nilFunc)] [(0, 2, (.v 5)), (2, 2, (.v 7)), (4, 2, (.v 9)), (6, 2, (.v 11)), (8, 2, (.v 13)), (10, 2, (.v 15)), (12, 2, (.v 18))]⟩,
  ⟨none, none, none, .objs [], .st 14 (.v 2) (.v 19)⟩]))) <|
  .ret

theorem il39_eq : cFn Tryd.prog pol 39 = some ⟨20, il39c, [(2, some (true, 14))]⟩ := by kernel_rfl

noncomputable def il40c : C :=
  .seq (.ops ([
  ⟨some 5, none, none, .objs [], .bx false (.v 2)⟩])) <|
  .seq (.opsD [(4, 6), (4, 8), (5, 8), (6, 8), (7, 8)] ([
  ⟨some 7, none, none, .objs [], .mv (.v 0)⟩,
  ⟨some 8, none, none, .objs [], .nc (.v 7)⟩,
  ⟨some 9, none, none, .objs [], .fa 0 (.v 8)⟩,
  ⟨some 10, none, none, .objs [], .fa 1 (.v 9)⟩,
  ⟨some 11, none, none, .objs [(.v 10)], .ld false 1 (.v 10)⟩,
  ⟨some 12, none, none, .objs [(.v 5)], .ld true 4 (.v 5)⟩,
  ⟨some 13, none, none, .cal (.c (.fn (.func 35) [] [])) [(.v 12)], .call (.c (.fn (.func 35) [] [])) [(.v 12)]⟩,
  ⟨some 14, none, none, .objs [(.v 11)], .raw (opOf Tryd.prog 40 1 7)⟩,
  ⟨some 6, none, none, .objs [], .nw 4 (.agg [(.sc (.bool false)), (.sc (.bool false)), (.sc (.int .i64 0)), (.sc (.int .i64 0))])⟩,
  ⟨none, none, none, .objs [(.v 6)], .st 4 (.v 6) (.v 14)⟩])) <|
  .seq (.seq (.ops ([
  ⟨some 15, none, none, .objs [], .fa 0 (.v 5)⟩,
  ⟨some 16, none, none, .objs [], .ld false 1 (.v 15)⟩,
  ⟨some 17, none, none, .objs [], .bin .eql false (.v 16) (.c (.sc (.int .i64 1)))⟩])) <| mkC [0, 1, 5, 6, 17] <|
  .cond (.v 17) (.seq (.opsD [(4, 6), (6, 9)] ([
    ⟨some 18, none, none, .objs [], .mv (.v 0)⟩,
    ⟨some 19, none, none, .objs [], .nc (.v 18)⟩,
    ⟨some 20, none, none, .objs [], .fa 0 (.v 19)⟩,
    ⟨some 21, none, none, .objs [], .fa 1 (.v 20)⟩,
    ⟨some 22, none, none, .objs [(.v 21)], .ld false 1 (.v 21)⟩,
    ⟨some 23, none, none, .objs [(.v 5)], .ld true 4 (.v 5)⟩,
    ⟨some 24, none, none, .cal (.c (.fn (.func 35) [] [])) [(.v 23)], .call (.c (.fn (.func 35) [] [])) [(.v 23)]⟩,
    ⟨some 25, none, none, .objs [], .mv (.v 1)⟩,
    ⟨some 26, none, none, .objs [], .fa 3 (.v 5)⟩,
    ⟨some 27, none, none, .objs [(.v 26)], .ld false 1 (.v 26)⟩,
    ⟨some 28, none, none, .objs [], .bd [(.sc (.bool false)), (.sc (.bool false)), (.sc (.int .i64 0)), (.sc (.int .i64 0))] [(0, 1, (.c (.sc (.bool true)))), (2, 1, (.v 25)), (3, 1, (.v 27))]⟩,
    ⟨none, none, none, .objs [(.v 22)], .raw (opOf Tryd.prog 40 3 11)⟩])) <|
    .ret) (.nop)) <|
  .seq (.ops ([
  ⟨some 29, none, none, .objs [], .fa 1 (.v 6)⟩,
  ⟨none, none, none, .objs [], .st 1 (.v 29) (.c (.sc (.bool true)))⟩])) <| mkC [0, 5, 6] <|
  .seq (.opsD [(4, 6), (6, 7)] ([
  ⟨some 30, none, none, .objs [], .mv (.v 0)⟩,
  ⟨some 31, none, none, .objs [], .nc (.v 30)⟩,
  ⟨some 32, none, none, .objs [], .fa 0 (.v 31)⟩,
  ⟨some 33, none, none, .objs [], .fa 1 (.v 32)⟩,
  ⟨some 34, none, none, .objs [(.v 33)], .ld false 1 (.v 33)⟩,
  ⟨some 35, none, none, .objs [(.v 5)], .ld true 4 (.v 5)⟩,
  ⟨some 36, none, none, .cal (.c (.fn (.func 35) [] [])) [(.v 35)], .call (.c (.fn (.func 35) [] [])) [(.v 35)]⟩,
  ⟨some 37, none, none, .objs [(.v 6)], .ld true 4 (.v 6)⟩,
  ⟨none, none, none, .objs [(.v 34)], .raw (opOf Tryd.prog 40 5 8)⟩])) <|
  .opsD [] ([
  ⟨some 38, none, none, .objs [], .mv (.v 0)⟩,
  ⟨some 39, none, none, .objs [], .nc (.v 38)⟩,
  ⟨some 40, none, none, .objs [], .fa 0 (.v 39)⟩,
  ⟨some 41, none, none, .objs [], .fa 2 (.v 40)⟩,
  ⟨some 42, none, none, .objs [(.v 41)], .ld false 1 (.v 41)⟩] ++ mkL [0, 5, 6, 42] ([
  ⟨some 43, none, none, .objs [], .fa 1 (.v 5)⟩,
  ⟨some 44, none, none, .objs [(.v 43)], .ld false 1 (.v 43)⟩,
  ⟨some 45, none, none, .objs [], .mv (.v 0)⟩,
  ⟨some 46, none, none, .objs [], .nc (.v 45)⟩,
  ⟨some 47, none, none, .objs [], .fa 0 (.v 46)⟩,
  ⟨some 48, none, none, .objs [], .fa 2 (.v 47)⟩,
  ⟨some 49, none, none, .objs [(.v 48)], .ld false 1 (.v 48)⟩,
  ⟨some 50, none, none, .objs [], .fa 1 (.v 5)⟩,
  ⟨some 51, none, none, .objs [(.v 50)], .ld false 1 (.v 50)⟩,
  ⟨some 52, none, none, .objs [(.v 49)], .raw (opOf Tryd.prog 40 6 14)⟩,
  ⟨some 53, none, none, .objs [], .fa 2 (.v 6)⟩,
  ⟨some 54, none, none, .objs [(.v 53)], .ld false 1 (.v 53)⟩,
  ⟨some 55, none, none, .objs [], .mnx true (.v 52) (.v 54)⟩,
  ⟨none, none, none, .objs [(.v 42)], .raw (opOf Tryd.prog 40 6 18)⟩]))

theorem il40_eq : cFn Tryd.prog pol 40 = some ⟨56, il40c, []⟩ := by kernel_rfl
theorem raw40_1_7 {e : FEnv} {h : Heap} : iStep Tryd.prog pol 40 e h (.raw (opOf Tryd.prog 40 1 7)) = vOf h (lkV Tryd.prog 75 false h (Src.get e (.v 11)) (Src.get e (.v 13))) := raw_lookup (x := (.tmp 11)) (ix := (.tmp 13)) (by kernel_rfl)
theorem raw40_3_11 {e : FEnv} {h : Heap} : iStep Tryd.prog pol 40 e h (.raw (opOf Tryd.prog 40 3 11)) = hOf (upV Tryd.prog 75 h (Src.get e (.v 22)) (Src.get e (.v 24)) (Src.get e (.v 28))) := raw_update (m := (.tmp 22)) (k := (.tmp 24)) (x := (.tmp 28)) (by kernel_rfl)
theorem raw40_5_8 {e : FEnv} {h : Heap} : iStep Tryd.prog pol 40 e h (.raw (opOf Tryd.prog 40 5 8)) = hOf (upV Tryd.prog 75 h (Src.get e (.v 34)) (Src.get e (.v 36)) (Src.get e (.v 37))) := raw_update (m := (.tmp 34)) (k := (.tmp 36)) (x := (.tmp 37)) (by kernel_rfl)
theorem raw40_6_14 {e : FEnv} {h : Heap} : iStep Tryd.prog pol 40 e h (.raw (opOf Tryd.prog 40 6 14)) = vOf h (lkV Tryd.prog 76 false h (Src.get e (.v 49)) (Src.get e (.v 51))) := raw_lookup (x := (.tmp 49)) (ix := (.tmp 51)) (by kernel_rfl)
theorem raw40_6_18 {e : FEnv} {h : Heap} : iStep Tryd.prog pol 40 e h (.raw (opOf Tryd.prog 40 6 18)) = hOf (upV Tryd.prog 76 h (Src.get e (.v 42)) (Src.get e (.v 44)) (Src.get e (.v 55))) := raw_update (m := (.tmp 42)) (k := (.tmp 44)) (x := (.tmp 55)) (by kernel_rfl)

noncomputable def il43c : C :=
  .seq (.ops ([
  ⟨some 3, none, none, .objs [], .bx false (.v 1)⟩,
  ⟨some 4, none, none, .objs [], .mv (.c (.sc (.bool false)))⟩])) <|
  .seq (.opsD [(4, 11), (6, 11), (7, 11)] ([
  ⟨some 8, none, none, .objs [], .mv (.v 0)⟩,
  ⟨some 9, none, none, .objs [], .nc (.v 8)⟩,
  ⟨some 10, none, none, .objs [], .fa 0 (.v 9)⟩,
  ⟨some 11, none, none, .objs [], .fa 0 (.v 10)⟩,
  ⟨some 12, none, none, .objs [(.v 11)], .ld false 1 (.v 11)⟩,
  ⟨some 13, none, none, .objs [], .fa 1 (.v 3)⟩,
  ⟨some 14, none, none, .objs [(.v 13)], .ld false 1 (.v 13)⟩,
  ⟨some 15, none, none, .objs [(.v 12)], .raw (opOf Tryd.prog 43 1 7)⟩,
  ⟨some 7, none, none, .objs [], .mv (.v 15)⟩,
  ⟨some 16, none, none, .objs [], .ex (.v 7) 0⟩,
  ⟨some 17, none, none, .objs [], .ex (.v 7) 1⟩,
  ⟨some 5, none, none, .objs [], .nw 4 (.agg [(.sc (.int .i64 0)), (.sc (.int .i64 0)), (.sc (.int .i64 0)), (.sc (.bool false))])⟩] ++ mkL [5, 16, 17] ([
  ⟨none, none, none, .objs [(.v 5)], .st 4 (.v 5) (.v 16)⟩,
  ⟨some 6, none, none, .objs [], .mv (.v 17)⟩]))) <|
  .seq (.ops ([
  ⟨some 18, none, none, .objs [], .mv (.v 6)⟩,
  ⟨some 19, none, none, .objs [], .nt (.v 18)⟩,
  ⟨some 4, none, none, .objs [], .mv (.v 19)⟩])) <|
  .ret

theorem il43_eq : cFn Tryd.prog pol 43 = some ⟨20, il43c, [(4, none)]⟩ := by kernel_rfl
theorem raw43_1_7 {e : FEnv} {h : Heap} : iStep Tryd.prog pol 43 e h (.raw (opOf Tryd.prog 43 1 7)) = vOf h (lkV Tryd.prog 74 true h (Src.get e (.v 12)) (Src.get e (.v 14))) := raw_lookup (x := (.tmp 12)) (ix := (.tmp 14)) (by kernel_rfl)

noncomputable def il44c : C :=
  .seq (.ops ([
  ⟨some 2, none, none, .objs [], .bx false (.v 0)⟩,
  ⟨some 3, none, none, .objs [], .mv (.c (.sc (.bool false)))⟩])) <|
  .seq (.opsD [(4, 10), (8, 10)] ([
  ⟨some 4, none, none, .objs [], .fa 0 (.v 2)⟩,
  ⟨some 5, none, none, .objs [(.v 4)], .ld false 1 (.v 4)⟩,
  ⟨some 6, none, none, .objs [], .bin .eql false (.v 5) (.c (.sc (.int .i64 1)))⟩,
  ⟨some 7, none, none, .objs [], .mv (.v 6)⟩,
  ⟨some 8, some (7, true), none, .objs [(.v 1)], .ld false 1 (.v 1)⟩,
  ⟨some 9, some (7, true), none, .objs [], .nc (.v 8)⟩,
  ⟨some 10, some (7, true), none, .objs [], .fa 0 (.v 9)⟩,
  ⟨some 11, some (7, true), none, .objs [], .fa 1 (.v 10)⟩,
  ⟨some 12, some (7, true), none, .objs [(.v 11)], .ld false 1 (.v 11)⟩,
  ⟨some 13, some (7, true), none, .objs [(.v 2)], .ld true 4 (.v 2)⟩,
  ⟨some 14, some (7, true), none, .cal (.c (.fn (.func 35) [] [])) [(.v 13)], .call (.c (.fn (.func 35) [] [])) [(.v 13)]⟩,
  ⟨some 15, some (7, true), none, .objs [(.v 12)], .raw (opOf Tryd.prog 44 1 11)⟩] ++ mkL [7, 15] ([
  ⟨some 16, some (7, true), none, .objs [], .fd false 1 0 (.v 15)⟩,
  ⟨some 17, none, none, .objs [], .pk (.v 7) (.v 16) (.c (.sc (.bool false)))⟩,
  ⟨some 3, none, none, .objs [], .mv (.v 17)⟩]))) <|
  .ret

theorem il44_eq : cFn Tryd.prog pol 44 = some ⟨18, il44c, [(3, none)]⟩ := by kernel_rfl
theorem raw44_1_11 {e : FEnv} {h : Heap} : iStep Tryd.prog pol 44 e h (.raw (opOf Tryd.prog 44 1 11)) = vOf h (lkV Tryd.prog 75 false h (Src.get e (.v 12)) (Src.get e (.v 14))) := raw_lookup (x := (.tmp 12)) (ix := (.tmp 14)) (by kernel_rfl)

noncomputable def il45c : C :=
  .seq (.ops ([
  ⟨some 2, none, none, .objs [], .bx false (.v 0)⟩,
  ⟨some 3, none, none, .objs [], .mv (.c (.sc (.bool false)))⟩])) <|
  .seq (.opsD [(4, 10), (8, 10)] ([
  ⟨some 4, none, none, .objs [], .fa 0 (.v 2)⟩,
  ⟨some 5, none, none, .objs [(.v 4)], .ld false 1 (.v 4)⟩,
  ⟨some 6, none, none, .objs [], .bin .eql false (.v 5) (.c (.sc (.int .i64 2)))⟩,
  ⟨some 7, none, none, .objs [], .mv (.v 6)⟩,
  ⟨some 8, some (7, true), none, .objs [(.v 1)], .ld false 1 (.v 1)⟩,
  ⟨some 9, some (7, true), none, .objs [], .nc (.v 8)⟩,
  ⟨some 10, some (7, true), none, .objs [], .fa 0 (.v 9)⟩,
  ⟨some 11, some (7, true), none, .objs [], .fa 1 (.v 10)⟩,
  ⟨some 12, some (7, true), none, .objs [(.v 11)], .ld false 1 (.v 11)⟩,
  ⟨some 13, some (7, true), none, .objs [(.v 2)], .ld true 4 (.v 2)⟩,
  ⟨some 14, some (7, true), none, .cal (.c (.fn (.func 35) [] [])) [(.v 13)], .call (.c (.fn (.func 35) [] [])) [(.v 13)]⟩,
  ⟨some 15, some (7, true), none, .objs [(.v 12)], .raw (opOf Tryd.prog 45 1 11)⟩] ++ mkL [7, 15] ([
  ⟨some 16, some (7, true), none, .objs [], .fd false 1 0 (.v 15)⟩,
  ⟨some 17, some (7, true), none, .objs [], .nt (.v 16)⟩,
  ⟨some 18, none, none, .objs [], .pk (.v 7) (.v 17) (.c (.sc (.bool false)))⟩,
  ⟨some 3, none, none, .objs [], .mv (.v 18)⟩]))) <|
  .ret

theorem il45_eq : cFn Tryd.prog pol 45 = some ⟨19, il45c, [(3, none)]⟩ := by kernel_rfl
theorem raw45_1_11 {e : FEnv} {h : Heap} : iStep Tryd.prog pol 45 e h (.raw (opOf Tryd.prog 45 1 11)) = vOf h (lkV Tryd.prog 75 false h (Src.get e (.v 12)) (Src.get e (.v 14))) := raw_lookup (x := (.tmp 12)) (ix := (.tmp 14)) (by kernel_rfl)

noncomputable def il46c : C :=
  .seq (.ops ([
  ⟨some 2, none, none, .objs [], .bx false (.v 0)⟩,
  ⟨some 3, none, none, .objs [], .mv (.c (.sc (.bool false)))⟩])) <|
  .seq (.opsD [(4, 10), (8, 10)] ([
  ⟨some 4, none, none, .objs [], .fa 0 (.v 2)⟩,
  ⟨some 5, none, none, .objs [(.v 4)], .ld false 1 (.v 4)⟩,
  ⟨some 6, none, none, .objs [], .bin .eql false (.v 5) (.c (.sc (.int .i64 2)))⟩,
  ⟨some 7, none, none, .objs [], .mv (.v 6)⟩,
  ⟨some 8, some (7, true), none, .objs [(.v 1)], .ld false 1 (.v 1)⟩,
  ⟨some 9, some (7, true), none, .objs [], .nc (.v 8)⟩,
  ⟨some 10, some (7, true), none, .objs [], .fa 0 (.v 9)⟩,
  ⟨some 11, some (7, true), none, .objs [], .fa 1 (.v 10)⟩,
  ⟨some 12, some (7, true), none, .objs [(.v 11)], .ld false 1 (.v 11)⟩,
  ⟨some 13, some (7, true), none, .objs [(.v 2)], .ld true 4 (.v 2)⟩,
  ⟨some 14, some (7, true), none, .cal (.c (.fn (.func 35) [] [])) [(.v 13)], .call (.c (.fn (.func 35) [] [])) [(.v 13)]⟩,
  ⟨some 15, some (7, true), none, .objs [(.v 12)], .raw (opOf Tryd.prog 46 1 11)⟩] ++ mkL [7, 15] ([
  ⟨some 16, some (7, true), none, .objs [], .fd false 1 1 (.v 15)⟩,
  ⟨some 17, none, none, .objs [], .pk (.v 7) (.v 16) (.c (.sc (.bool false)))⟩,
  ⟨some 3, none, none, .objs [], .mv (.v 17)⟩]))) <|
  .ret

theorem il46_eq : cFn Tryd.prog pol 46 = some ⟨18, il46c, [(3, none)]⟩ := by kernel_rfl
theorem raw46_1_11 {e : FEnv} {h : Heap} : iStep Tryd.prog pol 46 e h (.raw (opOf Tryd.prog 46 1 11)) = vOf h (lkV Tryd.prog 75 false h (Src.get e (.v 12)) (Src.get e (.v 14))) := raw_lookup (x := (.tmp 12)) (ix := (.tmp 14)) (by kernel_rfl)

noncomputable def il47c : C :=
  .seq (.ops ([
  ⟨some 2, none, none, .objs [], .bx false (.v 0)⟩,
  ⟨some 3, none, none, .objs [], .mv (.c (.sc (.bool false)))⟩])) <|
  .seq (.opsD [(5, 12), (6, 12), (10, 12), (12, 16), (12, 20), (12, 22), (12, 23)] ([
  ⟨some 4, none, none, .objs [], .fa 0 (.v 2)⟩,
  ⟨some 5, none, none, .objs [(.v 4)], .ld false 1 (.v 4)⟩,
  ⟨some 6, none, none, .objs [], .bin .eql false (.v 5) (.c (.sc (.int .i64 2)))⟩,
  ⟨some 7, none, none, .objs [], .mv (.v 6)⟩,
  ⟨some 8, some (7, true), none, .objs [], .fa 3 (.v 2)⟩,
  ⟨some 9, some (7, true), none, .objs [(.v 8)], .ld false 1 (.v 8)⟩,
  ⟨some 10, some (7, true), none, .objs [(.v 1)], .ld false 1 (.v 1)⟩,
  ⟨some 11, some (7, true), none, .objs [], .nc (.v 10)⟩,
  ⟨some 12, some (7, true), none, .objs [], .fa 0 (.v 11)⟩,
  ⟨some 13, some (7, true), none, .objs [], .fa 1 (.v 12)⟩,
  ⟨some 14, some (7, true), none, .objs [(.v 13)], .ld false 1 (.v 13)⟩,
  ⟨some 15, some (7, true), none, .objs [(.v 2)], .ld true 4 (.v 2)⟩] ++ mkL [1, 2, 7, 9, 14, 15] ([
  ⟨some 16, some (7, true), none, .cal (.c (.fn (.func 35) [] [])) [(.v 15)], .call (.c (.fn (.func 35) [] [])) [(.v 15)]⟩,
  ⟨some 17, some (7, true), none, .objs [(.v 14)], .raw (opOf Tryd.prog 47 1 13)⟩,
  ⟨some 18, some (7, true), none, .objs [], .fd false 1 3 (.v 17)⟩,
  ⟨some 19, some (7, true), none, .objs [], .bin .sub false (.v 9) (.v 18)⟩,
  ⟨some 20, some (7, true), none, .objs [(.v 1)], .ld false 1 (.v 1)⟩,
  ⟨some 21, some (7, true), none, .objs [], .nc (.v 20)⟩,
  ⟨some 22, some (7, true), none, .objs [], .fa 0 (.v 21)⟩,
  ⟨some 23, some (7, true), none, .objs [], .fa 0 (.v 22)⟩,
  ⟨some 24, some (7, true), none, .objs [(.v 23)], .ld false 1 (.v 23)⟩,
  ⟨some 25, some (7, true), none, .objs [], .fa 1 (.v 2)⟩,
  ⟨some 26, some (7, true), none, .objs [(.v 25)], .ld false 1 (.v 25)⟩,
  ⟨some 27, some (7, true), none, .objs [(.v 24)], .raw (opOf Tryd.prog 47 1 23)⟩,
  ⟨some 28, some (7, true), none, .objs [], .fd false 1 1 (.v 27)⟩,
  ⟨some 29, some (7, true), none, .objs [], .bin .lss false (.v 19) (.v 28)⟩] ++ mkL [7, 29] ([
  ⟨some 30, none, none, .objs [], .pk (.v 7) (.v 29) (.c (.sc (.bool false)))⟩,
  ⟨some 3, none, none, .objs [], .mv (.v 30)⟩])))) <|
  .ret

theorem il47_eq : cFn Tryd.prog pol 47 = some ⟨31, il47c, [(3, none)]⟩ := by kernel_rfl
theorem raw47_1_13 {e : FEnv} {h : Heap} : iStep Tryd.prog pol 47 e h (.raw (opOf Tryd.prog 47 1 13)) = vOf h (lkV Tryd.prog 75 false h (Src.get e (.v 14)) (Src.get e (.v 16))) := raw_lookup (x := (.tmp 14)) (ix := (.tmp 16)) (by kernel_rfl)
theorem raw47_1_23 {e : FEnv} {h : Heap} : iStep Tryd.prog pol 47 e h (.raw (opOf Tryd.prog 47 1 23)) = vOf h (lkV Tryd.prog 74 false h (Src.get e (.v 24)) (Src.get e (.v 26))) := raw_lookup (x := (.tmp 24)) (ix := (.tmp 26)) (by kernel_rfl)

noncomputable def il48c : C :=
  .seq (.ops ([
  ⟨some 2, none, none, .objs [], .bx false (.v 0)⟩,
  ⟨some 3, none, none, .objs [], .mv (.c (.sc (.bool false)))⟩])) <|
  .seq (.opsD [(5, 12), (6, 12), (10, 12), (12, 16), (12, 20), (12, 22), (12, 23)] ([
  ⟨some 4, none, none, .objs [], .fa 0 (.v 2)⟩,
  ⟨some 5, none, none, .objs [(.v 4)], .ld false 1 (.v 4)⟩,
  ⟨some 6, none, none, .objs [], .bin .eql false (.v 5) (.c (.sc (.int .i64 2)))⟩,
  ⟨some 7, none, none, .objs [], .mv (.v 6)⟩,
  ⟨some 8, some (7, true), none, .objs [], .fa 3 (.v 2)⟩,
  ⟨some 9, some (7, true), none, .objs [(.v 8)], .ld false 1 (.v 8)⟩,
  ⟨some 10, some (7, true), none, .objs [(.v 1)], .ld false 1 (.v 1)⟩,
  ⟨some 11, some (7, true), none, .objs [], .nc (.v 10)⟩,
  ⟨some 12, some (7, true), none, .objs [], .fa 0 (.v 11)⟩,
  ⟨some 13, some (7, true), none, .objs [], .fa 1 (.v 12)⟩,
  ⟨some 14, some (7, true), none, .objs [(.v 13)], .ld false 1 (.v 13)⟩,
  ⟨some 15, some (7, true), none, .objs [(.v 2)], .ld true 4 (.v 2)⟩] ++ mkL [1, 2, 7, 9, 14, 15] ([
  ⟨some 16, some (7, true), none, .cal (.c (.fn (.func 35) [] [])) [(.v 15)], .call (.c (.fn (.func 35) [] [])) [(.v 15)]⟩,
  ⟨some 17, some (7, true), none, .objs [(.v 14)], .raw (opOf Tryd.prog 48 1 13)⟩,
  ⟨some 18, some (7, true), none, .objs [], .fd false 1 3 (.v 17)⟩,
  ⟨some 19, some (7, true), none, .objs [], .bin .sub false (.v 9) (.v 18)⟩,
  ⟨some 20, some (7, true), none, .objs [(.v 1)], .ld false 1 (.v 1)⟩,
  ⟨some 21, some (7, true), none, .objs [], .nc (.v 20)⟩,
  ⟨some 22, some (7, true), none, .objs [], .fa 0 (.v 21)⟩,
  ⟨some 23, some (7, true), none, .objs [], .fa 0 (.v 22)⟩,
  ⟨some 24, some (7, true), none, .objs [(.v 23)], .ld false 1 (.v 23)⟩,
  ⟨some 25, some (7, true), none, .objs [], .fa 1 (.v 2)⟩,
  ⟨some 26, some (7, true), none, .objs [(.v 25)], .ld false 1 (.v 25)⟩,
  ⟨some 27, some (7, true), none, .objs [(.v 24)], .raw (opOf Tryd.prog 48 1 23)⟩,
  ⟨some 28, some (7, true), none, .objs [], .fd false 1 2 (.v 27)⟩,
  ⟨some 29, some (7, true), none, .objs [], .bin .gtr false (.v 19) (.v 28)⟩] ++ mkL [7, 29] ([
  ⟨some 30, none, none, .objs [], .pk (.v 7) (.v 29) (.c (.sc (.bool false)))⟩,
  ⟨some 3, none, none, .objs [], .mv (.v 30)⟩])))) <|
  .ret

theorem il48_eq : cFn Tryd.prog pol 48 = some ⟨31, il48c, [(3, none)]⟩ := by kernel_rfl
theorem raw48_1_13 {e : FEnv} {h : Heap} : iStep Tryd.prog pol 48 e h (.raw (opOf Tryd.prog 48 1 13)) = vOf h (lkV Tryd.prog 75 false h (Src.get e (.v 14)) (Src.get e (.v 16))) := raw_lookup (x := (.tmp 14)) (ix := (.tmp 16)) (by kernel_rfl)
theorem raw48_1_23 {e : FEnv} {h : Heap} : iStep Tryd.prog pol 48 e h (.raw (opOf Tryd.prog 48 1 23)) = vOf h (lkV Tryd.prog 74 false h (Src.get e (.v 24)) (Src.get e (.v 26))) := raw_lookup (x := (.tmp 24)) (ix := (.tmp 26)) (by kernel_rfl)

noncomputable def il49c : C :=
  .seq (.ops ([
  ⟨some 3, none, none, .objs [], .bx false (.v 1)⟩,
  ⟨some 4, none, none, .objs [], .mv (.c (.sc (.bool false)))⟩])) <|
  .seq (.seq (.opsD [] ([
  ⟨some 7, none, none, .objs [], .fa 0 (.v 3)⟩,
  ⟨some 8, none, none, .objs [(.v 7)], .ld false 1 (.v 7)⟩,
  ⟨some 9, none, none, .objs [], .bin .neq false (.v 8) (.c (.sc (.int .i64 2)))⟩,
  ⟨some 10, none, none, .objs [], .mv (.v 9)⟩,
  ⟨some 11, some (10, false), none, .objs [], .mv (.v 0)⟩,
  ⟨some 12, some (10, false), none, .objs [], .nc (.v 11)⟩,
  ⟨some 13, some (10, false), none, .objs [], .fa 0 (.v 12)⟩,
  ⟨some 14, some (10, false), none, .objs [], .fa 0 (.v 13)⟩,
  ⟨some 15, some (10, false), none, .objs [(.v 14)], .ld false 1 (.v 14)⟩,
  ⟨some 16, some (10, false), none, .objs [], .fa 1 (.v 3)⟩,
  ⟨some 17, some (10, false), none, .objs [(.v 16)], .ld false 1 (.v 16)⟩,
  ⟨some 18, some (10, false), none, .objs [(.v 15)], .raw (opOf Tryd.prog 49 1 11)⟩] ++ mkL [0, 3, 10, 18] ([
  ⟨some 19, some (10, false), none, .objs [], .fd false 1 3 (.v 18)⟩,
  ⟨some 20, some (10, false), none, .objs [], .nt (.v 19)⟩,
  ⟨some 21, none, none, .objs [], .pk (.v 10) (.c (.sc (.bool true))) (.v 20)⟩]))) <|
  .cond (.v 21) (.seq (.ops ([
    ⟨some 4, none, none, .objs [], .mv (.c (.sc (.bool false)))⟩])) <|
    .ret) (.nop)) <|
  .seq (.opsD [] ([
  ⟨some 23, none, none, .objs [], .mv (.v 0)⟩,
  ⟨some 24, none, none, .objs [], .nc (.v 23)⟩,
  ⟨some 25, none, none, .objs [], .fa 0 (.v 24)⟩,
  ⟨some 26, none, none, .objs [], .fa 2 (.v 25)⟩,
  ⟨some 27, none, none, .objs [(.v 26)], .ld false 1 (.v 26)⟩,
  ⟨some 28, none, none, .objs [], .fa 1 (.v 3)⟩,
  ⟨some 29, none, none, .objs [(.v 28)], .ld false 1 (.v 28)⟩,
  ⟨some 30, none, none, .objs [(.v 27)], .raw (opOf Tryd.prog 49 3 7)⟩,
  ⟨some 22, none, none, .objs [], .mv (.v 30)⟩,
  ⟨some 31, none, none, .objs [], .ex (.v 22) 0⟩] ++ mkL [0, 3, 22, 31] ([
  ⟨some 32, none, none, .objs [], .ex (.v 22) 1⟩,
  ⟨some 5, none, none, .objs [], .mv (.v 31)⟩,
  ⟨some 6, none, none, .objs [], .mv (.v 32)⟩]))) <|
  .seq (.opsD [(7, 9)] ([
  ⟨some 33, none, none, .objs [], .mv (.v 6)⟩,
  ⟨some 34, none, none, .objs [], .mv (.v 33)⟩,
  ⟨some 35, some (34, true), none, .objs [], .mv (.v 5)⟩,
  ⟨some 36, some (34, true), none, .objs [], .mv (.v 0)⟩,
  ⟨some 37, some (34, true), none, .objs [], .nc (.v 36)⟩,
  ⟨some 38, some (34, true), none, .objs [], .fa 0 (.v 37)⟩,
  ⟨some 39, some (34, true), none, .objs [], .fa 1 (.v 38)⟩,
  ⟨some 40, some (34, true), none, .objs [(.v 39)], .ld false 1 (.v 39)⟩,
  ⟨some 41, some (34, true), none, .objs [(.v 3)], .ld true 4 (.v 3)⟩,
  ⟨some 42, some (34, true), none, .cal (.c (.fn (.func 35) [] [])) [(.v 41)], .call (.c (.fn (.func 35) [] [])) [(.v 41)]⟩,
  ⟨some 43, some (34, true), none, .objs [(.v 40)], .raw (opOf Tryd.prog 49 4 10)⟩] ++ mkL [34, 35, 43] ([
  ⟨some 44, some (34, true), none, .objs [], .fd false 1 2 (.v 43)⟩,
  ⟨some 45, some (34, true), none, .objs [], .bin .gtr false (.v 35) (.v 44)⟩,
  ⟨some 46, none, none, .objs [], .pk (.v 34) (.v 45) (.c (.sc (.bool false)))⟩,
  ⟨some 4, none, none, .objs [], .mv (.v 46)⟩]))) <|
  .ret

theorem il49_eq : cFn Tryd.prog pol 49 = some ⟨47, il49c, [(4, none)]⟩ := by kernel_rfl
theorem raw49_1_11 {e : FEnv} {h : Heap} : iStep Tryd.prog pol 49 e h (.raw (opOf Tryd.prog 49 1 11)) = vOf h (lkV Tryd.prog 74 false h (Src.get e (.v 15)) (Src.get e (.v 17))) := raw_lookup (x := (.tmp 15)) (ix := (.tmp 17)) (by kernel_rfl)
theorem raw49_3_7 {e : FEnv} {h : Heap} : iStep Tryd.prog pol 49 e h (.raw (opOf Tryd.prog 49 3 7)) = vOf h (lkV Tryd.prog 76 true h (Src.get e (.v 27)) (Src.get e (.v 29))) := raw_lookup (x := (.tmp 27)) (ix := (.tmp 29)) (by kernel_rfl)
theorem raw49_4_10 {e : FEnv} {h : Heap} : iStep Tryd.prog pol 49 e h (.raw (opOf Tryd.prog 49 4 10)) = vOf h (lkV Tryd.prog 75 false h (Src.get e (.v 40)) (Src.get e (.v 42))) := raw_lookup (x := (.tmp 40)) (ix := (.tmp 42)) (by kernel_rfl)

attribute [go_sem] eqT34
attribute [go_sem] eqT22
attribute [go_sem] eqT23
attribute [go_sem] raw5_10_2
attribute [go_sem] raw12_9_0
attribute [go_sem] raw12_9_1
attribute [go_sem] raw12_9_2
attribute [go_sem] raw12_13_8
attribute [go_sem] raw12_16_2
attribute [go_sem] raw31_4_11
attribute [go_sem] raw31_4_25
attribute [go_sem] raw40_1_7
attribute [go_sem] raw40_3_11
attribute [go_sem] raw40_5_8
attribute [go_sem] raw40_6_14
attribute [go_sem] raw40_6_18
attribute [go_sem] raw43_1_7
attribute [go_sem] raw44_1_11
attribute [go_sem] raw45_1_11
attribute [go_sem] raw46_1_11
attribute [go_sem] raw47_1_13
attribute [go_sem] raw47_1_23
attribute [go_sem] raw48_1_13
attribute [go_sem] raw48_1_23
attribute [go_sem] raw49_1_11
attribute [go_sem] raw49_3_7
attribute [go_sem] raw49_4_10
end Go.Proofs.YthcaepnclhgkmaaDoor
