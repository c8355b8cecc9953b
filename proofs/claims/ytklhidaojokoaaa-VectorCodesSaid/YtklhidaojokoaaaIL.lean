/- Functions of the program, worked out ahead (printed by a program; each is checked against the program by the kernel). -/
import Derived.Test.YtklhidaojokoaaaILBase
set_option linter.unusedSimpArgs false
namespace Go.Proofs.Ytklhidaojokoaaa
open Go Go.Abs
set_option maxRecDepth 100000
set_option linter.unusedVariables false

theorem eqT25 {a0 b0 : Int} {a1 b1 : Int} {a2 b2 : Int} {a3 b3 : Int} {a4 b4 : Int} {a5 b5 : Int} : aEq Try.prog 25 (.t (.agg [.sc (.int .i64 a0), .sc (.int .i64 a1), .sc (.int .i64 a2), .sc (.int .i64 a3), .sc (.int .i64 a4), .sc (.int .i64 a5)])) (.t (.agg [.sc (.int .i64 b0), .sc (.int .i64 b1), .sc (.int .i64 b2), .sc (.int .i64 b3), .sc (.int .i64 b4), .sc (.int .i64 b5)])) = some (decide (a0 = b0 ∧ a1 = b1 ∧ a2 = b2 ∧ a3 = b3 ∧ a4 = b4 ∧ a5 = b5)) :=
  (show aEq Try.prog 25 (.t (.agg [.sc (.int .i64 a0), .sc (.int .i64 a1), .sc (.int .i64 a2), .sc (.int .i64 a3), .sc (.int .i64 a4), .sc (.int .i64 a5)])) (.t (.agg [.sc (.int .i64 b0), .sc (.int .i64 b1), .sc (.int .i64 b2), .sc (.int .i64 b3), .sc (.int .i64 b4), .sc (.int .i64 b5)])) = some (((a0 == b0) && ((a1 == b1) && true)) && ((a2 == b2) && (((a3 == b3) && ((a4 == b4) && true)) && ((a5 == b5) && true)))) by kernel_rfl).trans (by congr 1; rw [Bool.eq_iff_iff]; simp [and_assoc])

theorem eqT28 {a0 b0 : Int} {a1 b1 : Int} {a2 b2 : Int} {a3 b3 : Int} {a4 b4 : Int} {a5 b5 : Int} {a6 b6 : Int} : aEq Try.prog 28 (.t (.agg [.sc (.int .i64 a0), .sc (.int .i64 a1), .sc (.int .i64 a2), .sc (.int .i64 a3), .sc (.int .i64 a4), .sc (.int .i64 a5), .sc (.int .i64 a6)])) (.t (.agg [.sc (.int .i64 b0), .sc (.int .i64 b1), .sc (.int .i64 b2), .sc (.int .i64 b3), .sc (.int .i64 b4), .sc (.int .i64 b5), .sc (.int .i64 b6)])) = some (decide (a0 = b0 ∧ a1 = b1 ∧ a2 = b2 ∧ a3 = b3 ∧ a4 = b4 ∧ a5 = b5 ∧ a6 = b6)) :=
  (show aEq Try.prog 28 (.t (.agg [.sc (.int .i64 a0), .sc (.int .i64 a1), .sc (.int .i64 a2), .sc (.int .i64 a3), .sc (.int .i64 a4), .sc (.int .i64 a5), .sc (.int .i64 a6)])) (.t (.agg [.sc (.int .i64 b0), .sc (.int .i64 b1), .sc (.int .i64 b2), .sc (.int .i64 b3), .sc (.int .i64 b4), .sc (.int .i64 b5), .sc (.int .i64 b6)])) = some ((((a0 == b0) && ((a1 == b1) && true)) && ((a2 == b2) && (((a3 == b3) && ((a4 == b4) && true)) && ((a5 == b5) && true)))) && ((a6 == b6) && true)) by kernel_rfl).trans (by congr 1; rw [Bool.eq_iff_iff]; simp [and_assoc])

theorem eqT23 {a0 b0 : Int} {a1 b1 : Int} : aEq Try.prog 23 (.t (.agg [.sc (.int .i64 a0), .sc (.int .i64 a1)])) (.t (.agg [.sc (.int .i64 b0), .sc (.int .i64 b1)])) = some (decide (a0 = b0 ∧ a1 = b1)) :=
  (show aEq Try.prog 23 (.t (.agg [.sc (.int .i64 a0), .sc (.int .i64 a1)])) (.t (.agg [.sc (.int .i64 b0), .sc (.int .i64 b1)])) = some ((a0 == b0) && ((a1 == b1) && true)) by kernel_rfl).trans (by congr 1; rw [Bool.eq_iff_iff]; simp [and_assoc])

theorem eqT41 : isSliceT Try.prog 41 = true := by kernel_rfl

/-- isochron/isochronlaw18.VectorChecks -/
noncomputable def il3c : C :=
  .seq (.ops ([
  ⟨some 3, none, none, .objs [], .bx false (.v 0)⟩,
  ⟨some 4, none, none, .objs [], .bx false (.v 1)⟩,
  ⟨some 6, none, none, .objs [], .mv (.c (.sc (.bool false)))⟩])) <|
  .seq (.seq (.ops ([
  ⟨some 13, none, none, .objs [], .call (.c (.fn (.func 11) [] [])) []⟩,
  ⟨some 14, none, none, .objs [], .nt (.v 13)⟩])) <|
  .cond (.v 14) (.seq (.ops ([
    ⟨some 6, none, none, .objs [], .mv (.c (.sc (.bool false)))⟩])) <|
    .ret) (.nop)) <|
  .seq (.ops ([
  ⟨some 15, none, none, .objs [], .ld true 6 (.v 3)⟩,
  ⟨some 16, none, none, .objs [], .mv (.v 2)⟩,
  ⟨some 17, none, none, .objs [], .bd [(.sc (.int .i64 0)), (.sc (.int .i64 0)), (.sc (.int .i64 0)), (.sc (.int .i64 0)), (.sc (.int .i64 0)), (.sc (.int .i64 0)), (.sc (.int .i64 0))] [(0, 6, (.v 15)), (6, 1, (.v 16))]⟩,
  ⟨some 7, none, none, .objs [], .nw 7 (.agg [(.sc (.int .i64 0)), (.sc (.int .i64 0)), (.sc (.int .i64 0)), (.sc (.int .i64 0)), (.sc (.int .i64 0)), (.sc (.int .i64 0)), (.sc (.int .i64 0))])⟩,
  ⟨none, none, none, .objs [], .st 7 (.v 7) (.v 17)⟩])) <|
  .seq (.opsD [(1, 2)] ([
  ⟨some 18, none, none, .objs [(.v 3)], .ld true 6 (.v 3)⟩,
  ⟨some 19, none, none, .cal (.c (.fn (.func 12) [] [])) [(.v 18)], .call (.c (.fn (.func 12) [] [])) [(.v 18)]⟩,
  ⟨some 20, none, none, .objs [(.v 7)], .ld true 7 (.v 7)⟩] ++ mkL [3, 4, 7, 19, 20] ([
  ⟨some 21, none, none, .cal (.c (.fn (.func 13) [] [])) [(.v 20)], .call (.c (.fn (.func 13) [] [])) [(.v 20)]⟩,
  ⟨some 8, none, none, .objs [], .mv (.v 19)⟩,
  ⟨some 9, none, none, .objs [], .mv (.v 21)⟩]))) <|
  .seq (.seq (.ops ([
  ⟨some 22, none, none, .objs [], .ld true 6 (.v 3)⟩,
  ⟨some 23, none, none, .objs [], .call (.c (.fn (.func 14) [] [])) [(.v 22)]⟩,
  ⟨some 10, none, none, .objs [], .mv (.v 23)⟩])) <|
  .seq (.ops ([
  ⟨some 24, none, none, .objs [], .mv (.v 8)⟩,
  ⟨some 25, none, none, .objs [], .mv (.v 10)⟩,
  ⟨some 26, none, none, .objs [], .bin .eql false (.v 25) (.c (.sc (.int .i64 0)))⟩,
  ⟨some 27, none, none, .objs [], .bin .neq true (.v 24) (.v 26)⟩,
  ⟨some 28, none, none, .objs [], .mv (.v 27)⟩,
  ⟨some 29, some (28, false), none, .objs [], .mv (.v 8)⟩,
  ⟨some 30, some (28, false), none, .objs [], .nt (.v 29)⟩,
  ⟨some 31, some (28, false), none, .objs [], .mv (.v 30)⟩] ++ mkL [3, 4, 7, 9, 10, 28, 31] ([
  ⟨some 32, some (31, true), none, .objs [], .mv (.v 10)⟩,
  ⟨some 33, some (31, true), none, .objs [], .bin .neq false (.v 32) (.c (.sc (.int .i64 280)))⟩,
  ⟨some 34, some (28, false), none, .objs [], .pk (.v 31) (.v 33) (.c (.sc (.bool false)))⟩,
  ⟨some 35, none, none, .objs [], .pk (.v 28) (.c (.sc (.bool true))) (.v 34)⟩]))) <|
  .cond (.v 35) (.seq (.ops ([
    ⟨some 6, none, none, .objs [], .mv (.c (.sc (.bool false)))⟩])) <|
    .ret) (.nop)) <|
  .seq (.seq (.ops ([
  ⟨some 36, none, none, .objs [], .ld true 7 (.v 7)⟩,
  ⟨some 37, none, none, .objs [], .call (.c (.fn (.func 15) [] [])) [(.v 36)]⟩,
  ⟨some 11, none, none, .objs [], .mv (.v 37)⟩])) <|
  .seq (.ops ([
  ⟨some 38, none, none, .objs [], .mv (.v 9)⟩,
  ⟨some 39, none, none, .objs [], .mv (.v 11)⟩,
  ⟨some 40, none, none, .objs [], .bin .eql false (.v 39) (.c (.sc (.int .i64 0)))⟩,
  ⟨some 41, none, none, .objs [], .bin .neq true (.v 38) (.v 40)⟩,
  ⟨some 42, none, none, .objs [], .mv (.v 41)⟩,
  ⟨some 43, some (42, false), none, .objs [], .mv (.v 9)⟩] ++ mkL [3, 4, 11, 42, 43] ([
  ⟨some 44, some (42, false), none, .objs [], .nt (.v 43)⟩,
  ⟨some 45, some (42, false), none, .objs [], .mv (.v 44)⟩,
  ⟨some 46, some (45, true), none, .objs [], .mv (.v 11)⟩,
  ⟨some 47, some (45, true), none, .objs [], .bin .neq false (.v 46) (.c (.sc (.int .i64 280)))⟩,
  ⟨some 48, some (42, false), none, .objs [], .pk (.v 45) (.v 47) (.c (.sc (.bool false)))⟩,
  ⟨some 49, none, none, .objs [], .pk (.v 42) (.c (.sc (.bool true))) (.v 48)⟩]))) <|
  .cond (.v 49) (.seq (.ops ([
    ⟨some 6, none, none, .objs [], .mv (.c (.sc (.bool false)))⟩])) <|
    .ret) (.nop)) <|
  .seq (.ops ([
  ⟨some 12, none, none, .objs [], .mv (.c (.sc (.int .i64 0)))⟩])) <|
  .seq (.seq (.ops ([
  ⟨some 50, none, none, .objs [], .ld true 6 (.v 3)⟩,
  ⟨some 51, none, none, .objs [], .ld true 6 (.v 4)⟩,
  ⟨some 52, none, none, .objs [], .call (.c (.fn (.func 16) [] [])) [(.v 50), (.v 51)]⟩])) <|
  .cond (.v 52) (.ops ([
    ⟨some 12, none, none, .objs [], .mv (.c (.sc (.int .i64 (-1))))⟩])) (.seq (.ops ([
    ⟨some 53, none, none, .objs [], .ld true 6 (.v 4)⟩,
    ⟨some 54, none, none, .objs [], .ld true 6 (.v 3)⟩,
    ⟨some 55, none, none, .objs [], .call (.c (.fn (.func 16) [] [])) [(.v 53), (.v 54)]⟩])) <| mkC [3, 4, 12, 55] <|
    .cond (.v 55) (.ops ([
      ⟨some 12, none, none, .objs [], .mv (.c (.sc (.int .i64 1)))⟩])) (.nop))) <|
  .seq (.ops ([
  ⟨some 56, none, none, .objs [], .ld true 6 (.v 3)⟩,
  ⟨some 57, none, none, .objs [], .ld true 6 (.v 4)⟩] ++ mkL [3, 4, 12, 56, 57] ([
  ⟨some 58, none, none, .objs [], .call (.c (.fn (.func 17) [] [])) [(.v 56), (.v 57)]⟩,
  ⟨some 59, none, none, .objs [], .mv (.v 12)⟩,
  ⟨some 60, none, none, .objs [], .bin .eql false (.v 58) (.v 59)⟩,
  ⟨some 61, none, none, .objs [], .mv (.v 60)⟩,
  ⟨some 62, some (61, true), none, .objs [], .ld true 6 (.v 4)⟩,
  ⟨some 63, some (61, true), none, .objs [], .ld true 6 (.v 3)⟩,
  ⟨some 64, some (61, true), none, .objs [], .call (.c (.fn (.func 17) [] [])) [(.v 62), (.v 63)]⟩,
  ⟨some 65, some (61, true), none, .objs [], .mv (.v 12)⟩,
  ⟨some 66, some (61, true), none, .objs [], .ng (.v 65)⟩,
  ⟨some 67, some (61, true), none, .objs [], .bin .eql false (.v 64) (.v 66)⟩,
  ⟨some 68, none, none, .objs [], .pk (.v 61) (.v 67) (.c (.sc (.bool false)))⟩,
  ⟨some 69, none, none, .objs [], .mv (.v 68)⟩,
  ⟨some 70, some (69, true), none, .objs [], .ld true 6 (.v 3)⟩,
  ⟨some 71, some (69, true), none, .objs [], .ld true 6 (.v 3)⟩] ++ mkL [69, 70, 71] ([
  ⟨some 72, some (69, true), none, .objs [], .call (.c (.fn (.func 17) [] [])) [(.v 70), (.v 71)]⟩,
  ⟨some 73, some (69, true), none, .objs [], .bin .eql false (.v 72) (.c (.sc (.int .i64 0)))⟩,
  ⟨some 74, none, none, .objs [], .pk (.v 69) (.v 73) (.c (.sc (.bool false)))⟩,
  ⟨some 6, none, none, .objs [], .mv (.v 74)⟩])))) <|
  .ret

theorem il3_eq : cFn Try.prog pol 3 = some ⟨75, il3c, [(6, none)]⟩ := by kernel_rfl

/-- isochron/isochronlaw18.VectorExtends -/
noncomputable def il4c : C :=
  .seq (.ops ([
  ⟨some 4, none, none, .objs [], .bx false (.v 0)⟩,
  ⟨some 6, none, none, .objs [], .bx false (.v 2)⟩,
  ⟨some 8, none, none, .objs [], .mv (.c (.sc (.bool false)))⟩])) <|
  .seq (.seq (.ops ([
  ⟨some 12, none, none, .objs [], .call (.c (.fn (.func 11) [] [])) []⟩,
  ⟨some 13, none, none, .objs [], .nt (.v 12)⟩])) <|
  .cond (.v 13) (.seq (.ops ([
    ⟨some 8, none, none, .objs [], .mv (.c (.sc (.bool false)))⟩])) <|
    .ret) (.nop)) <|
  .seq (.ops ([
  ⟨some 15, none, none, .objs [], .ld true 6 (.v 4)⟩,
  ⟨some 16, none, none, .objs [], .mv (.v 1)⟩,
  ⟨some 17, none, none, .objs [], .ld true 2 (.v 6)⟩,
  ⟨some 18, none, none, .objs [], .mv (.v 3)⟩,
  ⟨some 19, none, none, .objs [], .call (.c (.fn (.func 18) [] [])) [(.v 15), (.v 16), (.v 17), (.v 18)]⟩,
  ⟨some 14, none, none, .objs [], .mv (.v 19)⟩,
  ⟨some 20, none, none, .objs [], .ex (.v 14) 0⟩,
  ⟨some 21, none, none, .objs [], .ex (.v 14) 1⟩] ++ mkL [1, 3, 4, 6, 20, 21] ([
  ⟨some 9, none, none, .objs [], .nw 6 (.agg [(.sc (.int .i64 0)), (.sc (.int .i64 0)), (.sc (.int .i64 0)), (.sc (.int .i64 0)), (.sc (.int .i64 0)), (.sc (.int .i64 0))])⟩,
  ⟨none, none, none, .objs [], .st 6 (.v 9) (.v 20)⟩,
  ⟨some 10, none, none, .objs [], .mv (.v 21)⟩]))) <|
  .seq (.ops ([
  ⟨some 11, none, none, .objs [], .mv (.c (.sc (.int .i64 0)))⟩])) <|
  .seq (.seq (.ops ([
  ⟨some 22, none, none, .objs [], .ld true 6 (.v 4)⟩,
  ⟨some 23, none, none, .objs [], .call (.c (.fn (.func 12) [] [])) [(.v 22)]⟩,
  ⟨some 24, none, none, .objs [], .nt (.v 23)⟩])) <|
  .cond (.v 24) (.ops ([
    ⟨some 11, none, none, .objs [], .mv (.c (.sc (.int .i64 280)))⟩])) (.seq (.ops ([
    ⟨some 25, none, none, .objs [], .mv (.v 1)⟩,
    ⟨some 26, none, none, .objs [], .bin .lss false (.v 25) (.c (.sc (.int .i64 1)))⟩,
    ⟨some 27, none, none, .objs [], .mv (.v 26)⟩,
    ⟨some 28, some (27, false), none, .objs [], .mv (.v 1)⟩,
    ⟨some 29, some (27, false), none, .objs [], .bin .gtr false (.v 28) (.c (.sc (.int .i64 1000)))⟩,
    ⟨some 30, none, none, .objs [], .pk (.v 27) (.c (.sc (.bool true))) (.v 29)⟩,
    ⟨some 31, none, none, .objs [], .mv (.v 30)⟩] ++ mkL [1, 3, 4, 6, 9, 10, 11, 31] ([
    ⟨some 32, some (31, false), none, .objs [], .ld true 2 (.v 6)⟩,
    ⟨some 33, some (31, false), none, .objs [], .call (.c (.fn (.func 19) [] [])) [(.v 32)]⟩,
    ⟨some 34, some (31, false), none, .objs [], .nt (.v 33)⟩,
    ⟨some 35, none, none, .objs [], .pk (.v 31) (.c (.sc (.bool true))) (.v 34)⟩,
    ⟨some 36, none, none, .objs [], .mv (.v 35)⟩,
    ⟨some 37, some (36, false), none, .objs [], .mv (.v 3)⟩,
    ⟨some 38, some (36, false), none, .objs [], .bin .lss false (.v 37) (.c (.sc (.int .i64 0)))⟩,
    ⟨some 39, none, none, .objs [], .pk (.v 36) (.c (.sc (.bool true))) (.v 38)⟩,
    ⟨some 40, none, none, .objs [], .mv (.v 39)⟩,
    ⟨some 41, some (40, false), none, .objs [], .mv (.v 3)⟩,
    ⟨some 42, some (40, false), none, .objs [], .bin .gtr false (.v 41) (.c (.sc (.int .i64 47)))⟩,
    ⟨some 43, none, none, .objs [], .pk (.v 40) (.c (.sc (.bool true))) (.v 42)⟩]))) <|
    .cond (.v 43) (.ops ([
      ⟨some 11, none, none, .objs [], .mv (.c (.sc (.int .i64 2)))⟩])) (.seq (.ops ([
      ⟨some 44, none, none, .objs [], .fa 2 (.v 4)⟩,
      ⟨some 45, none, none, .objs [], .ld false 1 (.v 44)⟩] ++ mkL [1, 3, 4, 6, 9, 10, 11, 45] ([
      ⟨some 46, none, none, .objs [], .mv (.v 1)⟩,
      ⟨some 47, none, none, .objs [], .bin .add false (.v 45) (.v 46)⟩,
      ⟨some 48, none, none, .objs [], .bin .gtr false (.v 47) (.c (.sc (.int .i64 1048576)))⟩]))) <|
      .cond (.v 48) (.ops ([
        ⟨some 11, none, none, .objs [], .mv (.c (.sc (.int .i64 6)))⟩])) (.nop)))) <|
  .seq (.seq (.ops ([
  ⟨some 49, none, none, .objs [], .mv (.v 11)⟩] ++ mkL [1, 3, 4, 6, 9, 10, 11, 49] ([
  ⟨some 50, none, none, .objs [], .bin .neq false (.v 49) (.c (.sc (.int .i64 0)))⟩]))) <|
  .cond (.v 50) (.seq (.ops ([
    ⟨some 51, none, none, .objs [], .ld true 6 (.v 9)⟩,
    ⟨some 52, none, none, .objs [], .bd [(.sc (.int .i64 0)), (.sc (.int .i64 0)), (.sc (.int .i64 0)), (.sc (.int .i64 0)), (.sc (.int .i64 0)), (.sc (.int .i64 0))] []⟩,
    ⟨some 53, none, none, .objs [], .raw (opOf Try.prog 4 12 2)⟩,
    ⟨some 54, none, none, .objs [], .mv (.v 53)⟩,
    ⟨some 55, some (54, true), none, .objs [], .mv (.v 10)⟩,
    ⟨some 56, some (54, true), none, .objs [], .mv (.v 11)⟩,
    ⟨some 57, some (54, true), none, .objs [], .bin .eql false (.v 55) (.v 56)⟩,
    ⟨some 58, none, none, .objs [], .pk (.v 54) (.v 57) (.c (.sc (.bool false)))⟩,
    ⟨some 8, none, none, .objs [], .mv (.v 58)⟩])) <|
    .ret) (.nop)) <|
  .seq (.ops ([
  ⟨some 59, none, none, .objs [], .mv (.v 10)⟩,
  ⟨some 60, none, none, .objs [], .bin .eql false (.v 59) (.c (.sc (.int .i64 0)))⟩,
  ⟨some 61, none, none, .objs [], .mv (.v 60)⟩,
  ⟨some 62, some (61, true), none, .objs [], .ld true 6 (.v 9)⟩] ++ mkL [1, 3, 4, 6, 61, 62] ([
  ⟨some 63, some (61, true), none, .objs [], .fa 0 (.v 4)⟩,
  ⟨some 64, some (61, true), none, .objs [], .ld true 2 (.v 63)⟩,
  ⟨some 65, some (61, true), none, .objs [], .fa 2 (.v 4)⟩,
  ⟨some 66, some (61, true), none, .objs [], .ld false 1 (.v 65)⟩,
  ⟨some 67, some (61, true), none, .objs [], .mv (.v 1)⟩,
  ⟨some 68, some (61, true), none, .objs [], .bin .add false (.v 66) (.v 67)⟩,
  ⟨some 69, some (61, true), none, .objs [], .ld true 2 (.v 6)⟩,
  ⟨some 70, some (61, true), none, .objs [], .mv (.v 3)⟩,
  ⟨some 71, some (61, true), none, .objs [], .bd [(.sc (.int .i64 0)), (.sc (.int .i64 0)), (.sc (.int .i64 0)), (.sc (.int .i64 0)), (.sc (.int .i64 0)), (.sc (.int .i64 0))] [(0, 2, (.v 64)), (2, 1, (.v 68)), (3, 2, (.v 69)), (5, 1, (.v 70))]⟩,
  ⟨some 72, some (61, true), none, .objs [], .raw (opOf Try.prog 4 13 13)⟩,
  ⟨some 73, none, none, .objs [], .pk (.v 61) (.v 72) (.c (.sc (.bool false)))⟩,
  ⟨some 8, none, none, .objs [], .mv (.v 73)⟩]))) <|
  .ret

theorem il4_eq : cFn Try.prog pol 4 = some ⟨74, il4c, [(8, none)]⟩ := by kernel_rfl
theorem raw4_12_2 {e : FEnv} {h : Heap} : iStep Try.prog pol 4 e h (.raw (opOf Try.prog 4 12 2)) = vOf h (binE Try.prog false 25 (.tmp 51) (.tmp 52) (Src.get e (.v 51)) (Src.get e (.v 52))) := raw_eql (x := (.tmp 51)) (y := (.tmp 52)) (s := 25) (by kernel_rfl)
theorem raw4_13_13 {e : FEnv} {h : Heap} : iStep Try.prog pol 4 e h (.raw (opOf Try.prog 4 13 13)) = vOf h (binE Try.prog false 25 (.tmp 62) (.tmp 71) (Src.get e (.v 62)) (Src.get e (.v 71))) := raw_eql (x := (.tmp 62)) (y := (.tmp 71)) (s := 25) (by kernel_rfl)

/-- isochron/isochronlaw18.VectorCodes -/
noncomputable def il5c : C :=
  .seq (.ops ([
  ⟨some 2, none, none, .objs [], .bx false (.v 0)⟩,
  ⟨some 4, none, none, .objs [], .mv (.c (.sc (.bool false)))⟩])) <|
  .seq (.seq (.ops ([
  ⟨some 12, none, none, .objs [], .call (.c (.fn (.func 11) [] [])) []⟩,
  ⟨some 13, none, none, .objs [], .nt (.v 12)⟩])) <|
  .cond (.v 13) (.seq (.ops ([
    ⟨some 4, none, none, .objs [], .mv (.c (.sc (.bool false)))⟩])) <|
    .ret) (.nop)) <|
  .seq (.ops ([
  ⟨some 15, none, none, .objs [], .ld true 7 (.v 2)⟩,
  ⟨some 16, none, none, .objs [], .call (.c (.fn (.func 20) [] [])) [(.v 15)]⟩,
  ⟨some 14, none, none, .objs [], .mv (.v 16)⟩,
  ⟨some 17, none, none, .objs [], .ex (.v 14) 0⟩,
  ⟨some 18, none, none, .objs [], .ex (.v 14) 1⟩,
  ⟨some 5, none, none, .objs [], .mv (.v 17)⟩,
  ⟨some 6, none, none, .objs [], .mv (.v 18)⟩])) <|
  .seq (.seq (.ops ([
  ⟨some 19, none, none, .objs [], .ld true 7 (.v 2)⟩,
  ⟨some 20, none, none, .objs [], .call (.c (.fn (.func 13) [] [])) [(.v 19)]⟩] ++ mkL [1, 2, 5, 6, 20] ([
  ⟨some 7, none, none, .objs [], .mv (.v 20)⟩]))) <|
  .seq (.ops ([
  ⟨some 21, none, none, .objs [], .mv (.v 7)⟩,
  ⟨some 22, none, none, .objs [], .nt (.v 21)⟩,
  ⟨some 23, none, none, .objs [], .mv (.v 22)⟩,
  ⟨some 24, some (23, true), none, .objs [], .mv (.v 5)⟩,
  ⟨some 25, some (23, true), none, .objs [], .lenS (.v 24)⟩,
  ⟨some 26, some (23, true), none, .objs [], .bin .gtr false (.v 25) (.c (.sc (.int .i64 0)))⟩,
  ⟨some 27, some (23, true), none, .objs [], .mv (.v 26)⟩,
  ⟨some 28, some (27, false), none, .objs [], .mv (.v 6)⟩,
  ⟨some 29, some (27, false), none, .objs [], .bin .neq false (.v 28) (.c (.sc (.int .i64 280)))⟩,
  ⟨some 30, some (23, true), none, .objs [], .pk (.v 27) (.c (.sc (.bool true))) (.v 29)⟩,
  ⟨some 31, none, none, .objs [], .pk (.v 23) (.v 30) (.c (.sc (.bool false)))⟩,
  ⟨some 32, none, none, .objs [], .mv (.v 31)⟩,
  ⟨some 33, some (32, false), none, .objs [], .mv (.v 7)⟩] ++ mkL [1, 2, 5, 6, 32, 33] ([
  ⟨some 34, some (32, false), none, .objs [], .mv (.v 33)⟩,
  ⟨some 35, some (34, true), none, .objs [], .mv (.v 6)⟩,
  ⟨some 36, some (34, true), none, .objs [], .bin .neq false (.v 35) (.c (.sc (.int .i64 0)))⟩,
  ⟨some 37, some (34, true), none, .objs [], .mv (.v 36)⟩,
  ⟨some 38, some (37, false), none, .objs [], .mv (.v 5)⟩,
  ⟨some 39, some (37, false), none, .objs [], .ld true 7 (.v 2)⟩,
  ⟨some 40, some (37, false), none, .objs [], .call (.c (.fn (.func 22) [] [])) [(.v 39)]⟩,
  ⟨some 41, some (37, false), none, .objs [], .call (.c (.fn (.func 21) [] [])) [(.v 38), (.v 40)]⟩,
  ⟨some 42, some (37, false), none, .objs [], .nt (.v 41)⟩,
  ⟨some 43, some (34, true), none, .objs [], .pk (.v 37) (.c (.sc (.bool true))) (.v 42)⟩,
  ⟨some 44, some (32, false), none, .objs [], .pk (.v 34) (.v 43) (.c (.sc (.bool false)))⟩,
  ⟨some 45, none, none, .objs [], .pk (.v 32) (.c (.sc (.bool true))) (.v 44)⟩]))) <|
  .cond (.v 45) (.seq (.ops ([
    ⟨some 4, none, none, .objs [], .mv (.c (.sc (.bool false)))⟩])) <|
    .ret) (.nop)) <|
  .seq (.ops ([
  ⟨some 46, none, none, .objs [], .bs false 1 (.sc (.int .u8 0)) 0 []⟩] ++ mkL [1, 46] ([
  ⟨some 47, none, none, .objs [], .mv (.v 1)⟩,
  ⟨some 48, none, none, .objs [], .mv (.v 1)⟩,
  ⟨some 49, none, none, .objs [], .lenS (.v 48)⟩,
  ⟨some 50, none, none, .objs [], .mnx false (.v 49) (.c (.sc (.int .i64 40)))⟩,
  ⟨some 51, none, none, .objs [], .sl 1 (.v 47) none (some (.v 50)) none⟩,
  ⟨some 52, none, none, .objs [], .app 1 1 (.v 46) (.v 51)⟩,
  ⟨some 8, none, none, .objs [], .mv (.v 52)⟩]))) <|
  .seq (.ops ([
  ⟨some 54, none, none, .objs [], .mv (.v 8)⟩,
  ⟨some 55, none, none, .objs [], .call (.c (.fn (.func 23) [] [])) [(.v 54)]⟩,
  ⟨some 53, none, none, .objs [], .mv (.v 55)⟩,
  ⟨some 56, none, none, .objs [], .ex (.v 53) 0⟩,
  ⟨some 57, none, none, .objs [], .ex (.v 53) 1⟩,
  ⟨some 9, none, none, .objs [], .nw 7 (.agg [(.sc (.int .i64 0)), (.sc (.int .i64 0)), (.sc (.int .i64 0)), (.sc (.int .i64 0)), (.sc (.int .i64 0)), (.sc (.int .i64 0)), (.sc (.int .i64 0))])⟩,
  ⟨none, none, none, .objs [], .st 7 (.v 9) (.v 56)⟩] ++ mkL [8, 9, 57] ([
  ⟨some 6, none, none, .objs [], .mv (.v 57)⟩]))) <|
  .seq (.ops ([
  ⟨some 59, none, none, .objs [], .mv (.v 8)⟩,
  ⟨some 60, none, none, .objs [], .call (.c (.fn (.func 24) [] [])) [(.v 59)]⟩,
  ⟨some 58, none, none, .objs [], .mv (.v 60)⟩,
  ⟨some 61, none, none, .objs [], .ex (.v 58) 0⟩,
  ⟨some 62, none, none, .objs [], .ex (.v 58) 1⟩,
  ⟨some 10, none, none, .objs [], .nw 7 (.agg [(.sc (.int .i64 0)), (.sc (.int .i64 0)), (.sc (.int .i64 0)), (.sc (.int .i64 0)), (.sc (.int .i64 0)), (.sc (.int .i64 0)), (.sc (.int .i64 0))])⟩,
  ⟨none, none, none, .objs [], .st 7 (.v 10) (.v 61)⟩,
  ⟨some 11, none, none, .objs [], .mv (.v 62)⟩])) <|
  .seq (.seq (.ops ([
  ⟨some 63, none, none, .objs [], .mv (.v 11)⟩,
  ⟨some 64, none, none, .objs [], .nt (.v 63)⟩])) <|
  .cond (.v 64) (.seq (.ops ([
    ⟨some 65, none, none, .objs [], .ld true 7 (.v 9)⟩,
    ⟨some 66, none, none, .objs [], .bd [(.sc (.int .i64 0)), (.sc (.int .i64 0)), (.sc (.int .i64 0)), (.sc (.int .i64 0)), (.sc (.int .i64 0)), (.sc (.int .i64 0)), (.sc (.int .i64 0))] []⟩,
    ⟨some 67, none, none, .objs [], .raw (opOf Try.prog 5 11 2)⟩] ++ mkL [6, 67] ([
    ⟨some 68, none, none, .objs [], .mv (.v 67)⟩,
    ⟨some 69, some (68, true), none, .objs [], .mv (.v 6)⟩,
    ⟨some 70, some (68, true), none, .objs [], .bin .eql false (.v 69) (.c (.sc (.int .i64 5)))⟩,
    ⟨some 71, none, none, .objs [], .pk (.v 68) (.v 70) (.c (.sc (.bool false)))⟩,
    ⟨some 4, none, none, .objs [], .mv (.v 71)⟩]))) <|
    .ret) (.nop)) <|
  .seq (.ops ([
  ⟨some 72, none, none, .objs [], .mv (.v 6)⟩,
  ⟨some 73, none, none, .objs [], .bin .eql false (.v 72) (.c (.sc (.int .i64 0)))⟩,
  ⟨some 74, none, none, .objs [], .mv (.v 73)⟩] ++ mkL [9, 10, 74] ([
  ⟨some 75, some (74, true), none, .objs [], .ld true 7 (.v 9)⟩,
  ⟨some 76, some (74, true), none, .objs [], .ld true 7 (.v 10)⟩,
  ⟨some 77, some (74, true), none, .objs [], .raw (opOf Try.prog 5 12 5)⟩,
  ⟨some 78, none, none, .objs [], .pk (.v 74) (.v 77) (.c (.sc (.bool false)))⟩,
  ⟨some 4, none, none, .objs [], .mv (.v 78)⟩]))) <|
  .ret

theorem il5_eq : cFn Try.prog pol 5 = some ⟨79, il5c, [(4, none)]⟩ := by kernel_rfl
theorem raw5_11_2 {e : FEnv} {h : Heap} : iStep Try.prog pol 5 e h (.raw (opOf Try.prog 5 11 2)) = vOf h (binE Try.prog false 28 (.tmp 65) (.tmp 66) (Src.get e (.v 65)) (Src.get e (.v 66))) := raw_eql (x := (.tmp 65)) (y := (.tmp 66)) (s := 28) (by kernel_rfl)
theorem raw5_12_5 {e : FEnv} {h : Heap} : iStep Try.prog pol 5 e h (.raw (opOf Try.prog 5 12 5)) = vOf h (binE Try.prog false 28 (.tmp 75) (.tmp 76) (Src.get e (.v 75)) (Src.get e (.v 76))) := raw_eql (x := (.tmp 75)) (y := (.tmp 76)) (s := 28) (by kernel_rfl)

/-- isochron/isochronlaw18.VectorOrders -/
noncomputable def il6c : C :=
  .seq (.ops ([
  ⟨some 3, none, none, .objs [], .bx false (.v 0)⟩,
  ⟨some 4, none, none, .objs [], .bx false (.v 1)⟩,
  ⟨some 5, none, none, .objs [], .bx false (.v 2)⟩,
  ⟨some 6, none, none, .objs [], .mv (.c (.sc (.bool false)))⟩])) <|
  .seq (.seq (.ops ([
  ⟨some 10, none, none, .objs [], .call (.c (.fn (.func 11) [] [])) []⟩,
  ⟨some 11, none, none, .objs [], .nt (.v 10)⟩])) <|
  .cond (.v 11) (.seq (.ops ([
    ⟨some 6, none, none, .objs [], .mv (.c (.sc (.bool false)))⟩])) <|
    .ret) (.nop)) <|
  .seq (.opsD [(2, 3), (2, 4), (2, 6), (5, 6), (2, 7), (5, 7)] ([
  ⟨some 12, none, none, .objs [(.v 3)], .ld true 6 (.v 3)⟩,
  ⟨some 13, none, none, .objs [(.v 4)], .ld true 6 (.v 4)⟩,
  ⟨some 14, none, none, .cal (.c (.fn (.func 17) [] [])) [(.v 12), (.v 13)], .call (.c (.fn (.func 17) [] [])) [(.v 12), (.v 13)]⟩,
  ⟨some 15, none, none, .objs [(.v 4)], .ld true 6 (.v 4)⟩,
  ⟨some 16, none, none, .objs [(.v 5)], .ld true 6 (.v 5)⟩,
  ⟨some 17, none, none, .cal (.c (.fn (.func 17) [] [])) [(.v 15), (.v 16)], .call (.c (.fn (.func 17) [] [])) [(.v 15), (.v 16)]⟩,
  ⟨some 18, none, none, .objs [(.v 3)], .ld true 6 (.v 3)⟩] ++ mkL [3, 4, 5, 14, 17, 18] ([
  ⟨some 19, none, none, .objs [(.v 5)], .ld true 6 (.v 5)⟩,
  ⟨some 20, none, none, .cal (.c (.fn (.func 17) [] [])) [(.v 18), (.v 19)], .call (.c (.fn (.func 17) [] [])) [(.v 18), (.v 19)]⟩,
  ⟨some 7, none, none, .objs [], .mv (.v 14)⟩,
  ⟨some 8, none, none, .objs [], .mv (.v 17)⟩,
  ⟨some 9, none, none, .objs [], .mv (.v 20)⟩]))) <|
  .seq (.seq (.ops ([
  ⟨some 21, none, none, .objs [], .ld true 6 (.v 4)⟩,
  ⟨some 22, none, none, .objs [], .ld true 6 (.v 3)⟩,
  ⟨some 23, none, none, .objs [], .call (.c (.fn (.func 17) [] [])) [(.v 21), (.v 22)]⟩,
  ⟨some 24, none, none, .objs [], .mv (.v 7)⟩,
  ⟨some 25, none, none, .objs [], .ng (.v 24)⟩,
  ⟨some 26, none, none, .objs [], .bin .neq false (.v 23) (.v 25)⟩,
  ⟨some 27, none, none, .objs [], .mv (.v 26)⟩,
  ⟨some 28, some (27, false), none, .objs [], .mv (.v 7)⟩,
  ⟨some 29, some (27, false), none, .objs [], .bin .eql false (.v 28) (.c (.sc (.int .i64 0)))⟩] ++ mkL [3, 4, 7, 8, 9, 27, 29] ([
  ⟨some 30, some (27, false), none, .objs [], .ld true 6 (.v 3)⟩,
  ⟨some 31, some (27, false), none, .objs [], .ld true 6 (.v 4)⟩,
  ⟨some 32, some (27, false), none, .objs [], .raw (opOf Try.prog 6 4 11)⟩,
  ⟨some 33, some (27, false), none, .objs [], .bin .neq true (.v 29) (.v 32)⟩,
  ⟨some 34, none, none, .objs [], .pk (.v 27) (.c (.sc (.bool true))) (.v 33)⟩]))) <|
  .cond (.v 34) (.seq (.ops ([
    ⟨some 6, none, none, .objs [], .mv (.c (.sc (.bool false)))⟩])) <|
    .ret) (.nop)) <|
  .seq (.ops ([
  ⟨some 35, none, none, .objs [], .mv (.v 7)⟩,
  ⟨some 36, none, none, .objs [], .bin .gtr false (.v 35) (.c (.sc (.int .i64 0)))⟩,
  ⟨some 37, none, none, .objs [], .mv (.v 36)⟩,
  ⟨some 38, some (37, false), none, .objs [], .mv (.v 8)⟩,
  ⟨some 39, some (37, false), none, .objs [], .bin .gtr false (.v 38) (.c (.sc (.int .i64 0)))⟩,
  ⟨some 40, none, none, .objs [], .pk (.v 37) (.c (.sc (.bool true))) (.v 39)⟩,
  ⟨some 41, none, none, .objs [], .mv (.v 40)⟩,
  ⟨some 42, some (41, false), none, .objs [], .mv (.v 9)⟩] ++ mkL [7, 8, 9, 41, 42] ([
  ⟨some 43, some (41, false), none, .objs [], .bin .leq false (.v 42) (.c (.sc (.int .i64 0)))⟩,
  ⟨some 44, some (41, false), none, .objs [], .mv (.v 43)⟩,
  ⟨some 45, some (44, true), none, .objs [], .mv (.v 9)⟩,
  ⟨some 46, some (44, true), none, .objs [], .bin .lss false (.v 45) (.c (.sc (.int .i64 0)))⟩,
  ⟨some 47, some (44, true), none, .objs [], .mv (.v 46)⟩,
  ⟨some 48, some (47, false), none, .objs [], .mv (.v 7)⟩,
  ⟨some 49, some (47, false), none, .objs [], .bin .eql false (.v 48) (.c (.sc (.int .i64 0)))⟩,
  ⟨some 50, some (47, false), none, .objs [], .mv (.v 49)⟩,
  ⟨some 51, some (50, true), none, .objs [], .mv (.v 8)⟩,
  ⟨some 52, some (50, true), none, .objs [], .bin .eql false (.v 51) (.c (.sc (.int .i64 0)))⟩,
  ⟨some 53, some (47, false), none, .objs [], .pk (.v 50) (.v 52) (.c (.sc (.bool false)))⟩,
  ⟨some 54, some (44, true), none, .objs [], .pk (.v 47) (.c (.sc (.bool true))) (.v 53)⟩,
  ⟨some 55, some (41, false), none, .objs [], .pk (.v 44) (.v 54) (.c (.sc (.bool false)))⟩,
  ⟨some 56, none, none, .objs [], .pk (.v 41) (.c (.sc (.bool true))) (.v 55)⟩] ++ mkL [56] ([
  ⟨some 6, none, none, .objs [], .mv (.v 56)⟩])))) <|
  .ret

theorem il6_eq : cFn Try.prog pol 6 = some ⟨57, il6c, [(6, none)]⟩ := by kernel_rfl
theorem raw6_4_11 {e : FEnv} {h : Heap} : iStep Try.prog pol 6 e h (.raw (opOf Try.prog 6 4 11)) = vOf h (binE Try.prog false 25 (.tmp 30) (.tmp 31) (Src.get e (.v 30)) (Src.get e (.v 31))) := raw_eql (x := (.tmp 30)) (y := (.tmp 31)) (s := 25) (by kernel_rfl)

/-- isochron/isochronlaw18.VectorGrows -/
noncomputable def il7c : C :=
  .seq (.ops ([
  ⟨some 5, none, none, .objs [], .bx true (.v 0)⟩,
  ⟨some 6, none, none, .objs [], .bx true (.v 1)⟩,
  ⟨some 8, none, none, .objs [], .bx true (.v 3)⟩,
  ⟨some 10, none, none, .objs [], .mv (.c (.sc (.bool false)))⟩])) <|
  .seq (.seq (.ops ([
  ⟨some 15, none, none, .objs [], .call (.c (.fn (.func 11) [] [])) []⟩,
  ⟨some 16, none, none, .objs [], .nt (.v 15)⟩])) <|
  .cond (.v 16) (.seq (.ops ([
    ⟨some 10, none, none, .objs [], .mv (.c (.sc (.bool false)))⟩])) <|
    .ret) (.nop)) <|
  .seq (.opsD [(1, 2)] ([
  ⟨some 17, none, none, .objs [(.v 5)], .ld true 6 (.v 5)⟩,
  ⟨some 18, none, none, .cal (.c (.fn (.func 25) [] [])) [(.v 17)], .call (.c (.fn (.func 25) [] [])) [(.v 17)]⟩,
  ⟨some 19, none, none, .objs [(.v 6)], .ld true 6 (.v 6)⟩,
  ⟨some 20, none, none, .cal (.c (.fn (.func 25) [] [])) [(.v 19)], .call (.c (.fn (.func 25) [] [])) [(.v 19)]⟩,
  ⟨none, none, none, .objs [(.v 5)], .st 6 (.v 5) (.v 18)⟩,
  ⟨none, none, none, .objs [(.v 6)], .st 6 (.v 6) (.v 20)⟩])) <|
  .seq (.ops ([
  ⟨some 21, none, none, .objs [], .mv (.v 2)⟩] ++ mkL [4, 5, 6, 8, 21] ([
  ⟨some 22, none, none, .objs [], .cv .u64 (.v 21)⟩,
  ⟨some 23, none, none, .objs [], .bin .rem false (.v 22) (.c (.sc (.int .u64 1000)))⟩,
  ⟨some 24, none, none, .objs [], .cv .i64 (.v 23)⟩,
  ⟨some 25, none, none, .objs [], .bin .add false (.c (.sc (.int .i64 1))) (.v 24)⟩,
  ⟨some 26, none, none, .objs [], .mv (.v 4)⟩,
  ⟨some 27, none, none, .objs [], .cv .u64 (.v 26)⟩,
  ⟨some 28, none, none, .objs [], .bin .rem false (.v 27) (.c (.sc (.int .u64 48)))⟩,
  ⟨some 29, none, none, .objs [], .cv .i64 (.v 28)⟩,
  ⟨some 2, none, none, .objs [], .mv (.v 25)⟩,
  ⟨some 4, none, none, .objs [], .mv (.v 29)⟩]))) <|
  .seq (.ops ([
  ⟨some 30, none, none, .objs [], .ld true 2 (.v 8)⟩,
  ⟨some 31, none, none, .objs [], .bd [(.sc (.int .i64 0)), (.sc (.int .i64 0)), (.sc (.int .i64 0)), (.sc (.int .i64 0)), (.sc (.int .i64 0)), (.sc (.int .i64 0))] [(0, 2, (.v 30))]⟩,
  ⟨some 32, none, none, .objs [], .call (.c (.fn (.func 25) [] [])) [(.v 31)]⟩,
  ⟨some 33, none, none, .objs [], .fd true 2 0 (.v 32)⟩] ++ mkL [2, 4, 5, 6, 8, 33] ([
  ⟨none, none, none, .objs [], .st 2 (.v 8) (.v 33)⟩]))) <|
  .seq (.ops ([
  ⟨some 35, none, none, .objs [], .ld true 6 (.v 5)⟩,
  ⟨some 36, none, none, .objs [], .mv (.v 2)⟩,
  ⟨some 37, none, none, .objs [], .ld true 2 (.v 8)⟩,
  ⟨some 38, none, none, .objs [], .mv (.v 4)⟩,
  ⟨some 39, none, none, .objs [], .call (.c (.fn (.func 18) [] [])) [(.v 35), (.v 36), (.v 37), (.v 38)]⟩,
  ⟨some 34, none, none, .objs [], .mv (.v 39)⟩,
  ⟨some 40, none, none, .objs [], .ex (.v 34) 0⟩,
  ⟨some 41, none, none, .objs [], .ex (.v 34) 1⟩,
  ⟨some 11, none, none, .objs [], .nw 6 (.agg [(.sc (.int .i64 0)), (.sc (.int .i64 0)), (.sc (.int .i64 0)), (.sc (.int .i64 0)), (.sc (.int .i64 0)), (.sc (.int .i64 0))])⟩,
  ⟨none, none, none, .objs [], .st 6 (.v 11) (.v 40)⟩,
  ⟨some 12, none, none, .objs [], .mv (.v 41)⟩])) <|
  .seq (.ops ([
  ⟨some 43, none, none, .objs [], .ld true 6 (.v 6)⟩,
  ⟨some 44, none, none, .objs [], .mv (.v 2)⟩] ++ mkL [4, 5, 6, 8, 11, 12, 43, 44] ([
  ⟨some 45, none, none, .objs [], .ld true 2 (.v 8)⟩,
  ⟨some 46, none, none, .objs [], .mv (.v 4)⟩,
  ⟨some 47, none, none, .objs [], .call (.c (.fn (.func 18) [] [])) [(.v 43), (.v 44), (.v 45), (.v 46)]⟩,
  ⟨some 42, none, none, .objs [], .mv (.v 47)⟩,
  ⟨some 48, none, none, .objs [], .ex (.v 42) 0⟩,
  ⟨some 49, none, none, .objs [], .ex (.v 42) 1⟩,
  ⟨some 13, none, none, .objs [], .nw 6 (.agg [(.sc (.int .i64 0)), (.sc (.int .i64 0)), (.sc (.int .i64 0)), (.sc (.int .i64 0)), (.sc (.int .i64 0)), (.sc (.int .i64 0))])⟩,
  ⟨none, none, none, .objs [], .st 6 (.v 13) (.v 48)⟩,
  ⟨some 14, none, none, .objs [], .mv (.v 49)⟩]))) <|
  .seq (.seq (.ops ([
  ⟨some 50, none, none, .objs [], .mv (.v 12)⟩,
  ⟨some 51, none, none, .objs [], .bin .neq false (.v 50) (.c (.sc (.int .i64 0)))⟩,
  ⟨some 52, none, none, .objs [], .mv (.v 51)⟩,
  ⟨some 53, some (52, false), none, .objs [], .mv (.v 14)⟩,
  ⟨some 54, some (52, false), none, .objs [], .bin .neq false (.v 53) (.c (.sc (.int .i64 0)))⟩] ++ mkL [5, 6, 11, 13, 52, 54] ([
  ⟨some 55, none, none, .objs [], .pk (.v 52) (.c (.sc (.bool true))) (.v 54)⟩,
  ⟨some 56, none, none, .objs [], .mv (.v 55)⟩,
  ⟨some 57, some (56, false), none, .objs [], .ld true 6 (.v 5)⟩,
  ⟨some 58, some (56, false), none, .objs [], .ld true 6 (.v 11)⟩,
  ⟨some 59, some (56, false), none, .objs [], .call (.c (.fn (.func 17) [] [])) [(.v 57), (.v 58)]⟩,
  ⟨some 60, some (56, false), none, .objs [], .bin .neq false (.v 59) (.c (.sc (.int .i64 (-1))))⟩,
  ⟨some 61, none, none, .objs [], .pk (.v 56) (.c (.sc (.bool true))) (.v 60)⟩]))) <|
  .cond (.v 61) (.seq (.ops ([
    ⟨some 10, none, none, .objs [], .mv (.c (.sc (.bool false)))⟩])) <|
    .ret) (.nop)) <|
  .seq (.seq (.ops ([
  ⟨some 62, none, none, .objs [], .fa 0 (.v 5)⟩,
  ⟨some 63, none, none, .objs [], .ld true 2 (.v 62)⟩,
  ⟨some 64, none, none, .objs [], .fa 0 (.v 6)⟩,
  ⟨some 65, none, none, .objs [], .ld true 2 (.v 64)⟩,
  ⟨some 66, none, none, .objs [], .raw (opOf Try.prog 7 10 4)⟩,
  ⟨some 67, none, none, .objs [], .mv (.v 66)⟩] ++ mkL [5, 6, 11, 13, 67] ([
  ⟨some 68, some (67, false), none, .objs [], .fa 2 (.v 5)⟩,
  ⟨some 69, some (67, false), none, .objs [], .ld false 1 (.v 68)⟩,
  ⟨some 70, some (67, false), none, .objs [], .fa 2 (.v 6)⟩,
  ⟨some 71, some (67, false), none, .objs [], .ld false 1 (.v 70)⟩,
  ⟨some 72, some (67, false), none, .objs [], .bin .neq false (.v 69) (.v 71)⟩,
  ⟨some 73, none, none, .objs [], .pk (.v 67) (.c (.sc (.bool true))) (.v 72)⟩]))) <|
  .cond (.v 73) (.seq (.opsD [(2, 3), (2, 4)] ([
    ⟨some 74, none, none, .objs [(.v 11)], .ld true 6 (.v 11)⟩,
    ⟨some 75, none, none, .objs [(.v 13)], .ld true 6 (.v 13)⟩,
    ⟨some 76, none, none, .cal (.c (.fn (.func 17) [] [])) [(.v 74), (.v 75)], .call (.c (.fn (.func 17) [] [])) [(.v 74), (.v 75)]⟩,
    ⟨some 77, none, none, .objs [(.v 5)], .ld true 6 (.v 5)⟩,
    ⟨some 78, none, none, .objs [(.v 6)], .ld true 6 (.v 6)⟩,
    ⟨some 79, none, none, .cal (.c (.fn (.func 17) [] [])) [(.v 77), (.v 78)], .call (.c (.fn (.func 17) [] [])) [(.v 77), (.v 78)]⟩,
    ⟨some 80, none, none, .objs [], .bin .eql false (.v 76) (.v 79)⟩,
    ⟨some 10, none, none, .objs [], .mv (.v 80)⟩])) <|
    .ret) (.nop)) <| mkC [11, 13] <|
  .seq (.ops ([
  ⟨some 81, none, none, .objs [], .ld true 6 (.v 11)⟩,
  ⟨some 82, none, none, .objs [], .ld true 6 (.v 13)⟩,
  ⟨some 83, none, none, .objs [], .raw (opOf Try.prog 7 12 2)⟩,
  ⟨some 10, none, none, .objs [], .mv (.v 83)⟩])) <|
  .ret

theorem il7_eq : cFn Try.prog pol 7 = some ⟨84, il7c, [(10, none)]⟩ := by kernel_rfl
theorem raw7_10_4 {e : FEnv} {h : Heap} : iStep Try.prog pol 7 e h (.raw (opOf Try.prog 7 10 4)) = vOf h (binE Try.prog true 23 (.tmp 63) (.tmp 65) (Src.get e (.v 63)) (Src.get e (.v 65))) := raw_neq (x := (.tmp 63)) (y := (.tmp 65)) (s := 23) (by kernel_rfl)
theorem raw7_12_2 {e : FEnv} {h : Heap} : iStep Try.prog pol 7 e h (.raw (opOf Try.prog 7 12 2)) = vOf h (binE Try.prog false 25 (.tmp 81) (.tmp 82) (Src.get e (.v 81)) (Src.get e (.v 82))) := raw_eql (x := (.tmp 81)) (y := (.tmp 82)) (s := 25) (by kernel_rfl)

/-- isochron/isochronlaw18.VectorBack -/
noncomputable def il8c : C :=
  .seq (.ops ([
  ⟨some 4, none, none, .objs [], .bx false (.v 0)⟩,
  ⟨some 8, none, none, .objs [], .mv (.c (.sc (.bool false)))⟩])) <|
  .seq (.seq (.ops ([
  ⟨some 21, none, none, .objs [], .call (.c (.fn (.func 11) [] [])) []⟩,
  ⟨some 22, none, none, .objs [], .nt (.v 21)⟩])) <|
  .cond (.v 22) (.seq (.ops ([
    ⟨some 8, none, none, .objs [], .mv (.c (.sc (.bool false)))⟩])) <|
    .ret) (.nop)) <|
  .seq (.ops ([
  ⟨some 23, none, none, .objs [], .ld true 6 (.v 4)⟩,
  ⟨some 24, none, none, .objs [], .call (.c (.fn (.func 25) [] [])) [(.v 23)]⟩,
  ⟨some 25, none, none, .objs [], .mv (.v 1)⟩,
  ⟨some 26, none, none, .objs [], .cv .i64 (.v 25)⟩,
  ⟨some 27, none, none, .objs [], .bin .rem false (.v 26) (.c (.sc (.int .i64 21)))⟩,
  ⟨some 28, none, none, .objs [], .bd [(.sc (.int .i64 0)), (.sc (.int .i64 0)), (.sc (.int .i64 0)), (.sc (.int .i64 0)), (.sc (.int .i64 0)), (.sc (.int .i64 0)), (.sc (.int .i64 0))] [(0, 6, (.v 24)), (6, 1, (.v 27))]⟩,
  ⟨some 9, none, none, .objs [], .nw 7 (.agg [(.sc (.int .i64 0)), (.sc (.int .i64 0)), (.sc (.int .i64 0)), (.sc (.int .i64 0)), (.sc (.int .i64 0)), (.sc (.int .i64 0)), (.sc (.int .i64 0))])⟩,
  ⟨none, none, none, .objs [], .st 7 (.v 9) (.v 28)⟩])) <|
  .seq (.ops ([
  ⟨some 30, none, none, .objs [], .ld true 7 (.v 9)⟩] ++ mkL [2, 3, 9, 30] ([
  ⟨some 31, none, none, .objs [], .call (.c (.fn (.func 20) [] [])) [(.v 30)]⟩,
  ⟨some 29, none, none, .objs [], .mv (.v 31)⟩,
  ⟨some 32, none, none, .objs [], .ex (.v 29) 0⟩,
  ⟨some 33, none, none, .objs [], .ex (.v 29) 1⟩,
  ⟨some 10, none, none, .objs [], .mv (.v 32)⟩,
  ⟨some 11, none, none, .objs [], .mv (.v 33)⟩]))) <|
  .seq (.ops ([
  ⟨some 35, none, none, .objs [], .mv (.v 10)⟩,
  ⟨some 36, none, none, .objs [], .call (.c (.fn (.func 23) [] [])) [(.v 35)]⟩,
  ⟨some 34, none, none, .objs [], .mv (.v 36)⟩,
  ⟨some 37, none, none, .objs [], .ex (.v 34) 0⟩,
  ⟨some 38, none, none, .objs [], .ex (.v 34) 1⟩,
  ⟨some 12, none, none, .objs [], .nw 7 (.agg [(.sc (.int .i64 0)), (.sc (.int .i64 0)), (.sc (.int .i64 0)), (.sc (.int .i64 0)), (.sc (.int .i64 0)), (.sc (.int .i64 0)), (.sc (.int .i64 0))])⟩,
  ⟨none, none, none, .objs [], .st 7 (.v 12) (.v 37)⟩,
  ⟨some 13, none, none, .objs [], .mv (.v 38)⟩])) <| mkC [2, 3, 9, 10, 11, 12, 13] <|
  .seq (.seq (.ops ([
  ⟨some 39, none, none, .objs [], .mv (.v 11)⟩,
  ⟨some 40, none, none, .objs [], .bin .neq false (.v 39) (.c (.sc (.int .i64 0)))⟩,
  ⟨some 41, none, none, .objs [], .mv (.v 40)⟩,
  ⟨some 42, some (41, false), none, .objs [], .mv (.v 13)⟩,
  ⟨some 43, some (41, false), none, .objs [], .bin .neq false (.v 42) (.c (.sc (.int .i64 0)))⟩,
  ⟨some 44, none, none, .objs [], .pk (.v 41) (.c (.sc (.bool true))) (.v 43)⟩,
  ⟨some 45, none, none, .objs [], .mv (.v 44)⟩,
  ⟨some 46, some (45, false), none, .objs [], .ld true 7 (.v 12)⟩,
  ⟨some 47, some (45, false), none, .objs [], .ld true 7 (.v 9)⟩,
  ⟨some 48, some (45, false), none, .objs [], .raw (opOf Try.prog 8 6 9)⟩,
  ⟨some 49, none, none, .objs [], .pk (.v 45) (.c (.sc (.bool true))) (.v 48)⟩,
  ⟨some 50, none, none, .objs [], .mv (.v 49)⟩,
  ⟨some 51, some (50, false), none, .objs [], .mv (.v 10)⟩,
  ⟨some 52, some (50, false), none, .objs [], .lenS (.v 51)⟩] ++ mkL [2, 3, 10, 50, 52] ([
  ⟨some 53, some (50, false), none, .objs [], .bin .neq false (.v 52) (.c (.sc (.int .i64 12)))⟩,
  ⟨some 54, none, none, .objs [], .pk (.v 50) (.c (.sc (.bool true))) (.v 53)⟩]))) <|
  .cond (.v 54) (.seq (.ops ([
    ⟨some 8, none, none, .objs [], .mv (.c (.sc (.bool false)))⟩])) <|
    .ret) (.nop)) <|
  .seq (.ops ([
  ⟨some 55, none, none, .objs [], .mv (.v 10)⟩,
  ⟨some 56, none, none, .objs [], .call (.c (.fn (.func 26) [] [])) [(.v 55)]⟩,
  ⟨some 14, none, none, .objs [], .mv (.v 56)⟩])) <|
  .seq (.ops ([
  ⟨some 57, none, none, .objs [], .mv (.v 14)⟩,
  ⟨some 58, none, none, .objs [], .mv (.v 2)⟩,
  ⟨some 59, none, none, .objs [], .cv .i64 (.v 58)⟩,
  ⟨some 60, none, none, .objs [], .mv (.v 14)⟩,
  ⟨some 61, none, none, .objs [], .lenS (.v 60)⟩,
  ⟨some 62, none, none, .objs [], .bin .rem false (.v 59) (.v 61)⟩,
  ⟨some 63, none, none, .objs [], .iaS 1 (.v 57) (.v 62)⟩,
  ⟨some 64, none, none, .objs [], .ld false 1 (.v 63)⟩] ++ mkL [3, 10, 14, 57, 62, 64] ([
  ⟨some 65, none, none, .objs [], .mv (.v 3)⟩,
  ⟨some 66, none, none, .objs [], .bin .rem false (.v 65) (.c (.sc (.int .u8 255)))⟩,
  ⟨some 67, none, none, .objs [], .bin .add false (.c (.sc (.int .u8 1))) (.v 66)⟩,
  ⟨some 68, none, none, .objs [], .bin .add false (.v 64) (.v 67)⟩,
  ⟨some 69, none, none, .objs [], .iaS 1 (.v 57) (.v 62)⟩,
  ⟨none, none, none, .objs [], .st 1 (.v 69) (.v 68)⟩]))) <|
  .seq (.ops ([
  ⟨some 71, none, none, .objs [], .mv (.v 14)⟩,
  ⟨some 72, none, none, .objs [], .call (.c (.fn (.func 23) [] [])) [(.v 71)]⟩,
  ⟨some 70, none, none, .objs [], .mv (.v 72)⟩,
  ⟨some 73, none, none, .objs [], .ex (.v 70) 0⟩,
  ⟨some 74, none, none, .objs [], .ex (.v 70) 1⟩,
  ⟨some 15, none, none, .objs [], .nw 7 (.agg [(.sc (.int .i64 0)), (.sc (.int .i64 0)), (.sc (.int .i64 0)), (.sc (.int .i64 0)), (.sc (.int .i64 0)), (.sc (.int .i64 0)), (.sc (.int .i64 0))])⟩,
  ⟨none, none, none, .objs [], .st 7 (.v 15) (.v 73)⟩,
  ⟨some 16, none, none, .objs [], .mv (.v 74)⟩])) <| mkC [10, 16] <|
  .seq (.ops ([
  ⟨some 76, none, none, .objs [], .mv (.v 10)⟩,
  ⟨some 77, none, none, .objs [], .sl 1 (.v 76) none (some (.c (.sc (.int .i64 11)))) none⟩,
  ⟨some 78, none, none, .objs [], .call (.c (.fn (.func 23) [] [])) [(.v 77)]⟩,
  ⟨some 75, none, none, .objs [], .mv (.v 78)⟩,
  ⟨some 79, none, none, .objs [], .ex (.v 75) 0⟩,
  ⟨some 80, none, none, .objs [], .ex (.v 75) 1⟩,
  ⟨some 17, none, none, .objs [], .nw 7 (.agg [(.sc (.int .i64 0)), (.sc (.int .i64 0)), (.sc (.int .i64 0)), (.sc (.int .i64 0)), (.sc (.int .i64 0)), (.sc (.int .i64 0)), (.sc (.int .i64 0))])⟩,
  ⟨none, none, none, .objs [], .st 7 (.v 17) (.v 79)⟩,
  ⟨some 18, none, none, .objs [], .mv (.v 80)⟩])) <|
  .seq (.ops ([
  ⟨some 82, none, none, .objs [], .mv (.v 10)⟩,
  ⟨some 83, none, none, .objs [], .call (.c (.fn (.func 26) [] [])) [(.v 82)]⟩,
  ⟨some 84, none, none, .objs [], .bs false 1 (.sc (.int .u8 0)) 1 [(0, (.c (.sc (.int .u8 0))))]⟩,
  ⟨some 85, none, none, .objs [], .app 1 1 (.v 83) (.v 84)⟩,
  ⟨some 86, none, none, .objs [], .call (.c (.fn (.func 23) [] [])) [(.v 85)]⟩] ++ mkL [16, 18, 86] ([
  ⟨some 81, none, none, .objs [], .mv (.v 86)⟩,
  ⟨some 87, none, none, .objs [], .ex (.v 81) 0⟩,
  ⟨some 88, none, none, .objs [], .ex (.v 81) 1⟩,
  ⟨some 19, none, none, .objs [], .nw 7 (.agg [(.sc (.int .i64 0)), (.sc (.int .i64 0)), (.sc (.int .i64 0)), (.sc (.int .i64 0)), (.sc (.int .i64 0)), (.sc (.int .i64 0)), (.sc (.int .i64 0))])⟩,
  ⟨none, none, none, .objs [], .st 7 (.v 19) (.v 87)⟩,
  ⟨some 20, none, none, .objs [], .mv (.v 88)⟩]))) <|
  .seq (.ops ([
  ⟨some 89, none, none, .objs [], .mv (.v 16)⟩,
  ⟨some 90, none, none, .objs [], .bin .eql false (.v 89) (.c (.sc (.int .i64 5)))⟩,
  ⟨some 91, none, none, .objs [], .mv (.v 90)⟩,
  ⟨some 92, some (91, true), none, .objs [], .mv (.v 18)⟩,
  ⟨some 93, some (91, true), none, .objs [], .bin .eql false (.v 92) (.c (.sc (.int .i64 5)))⟩,
  ⟨some 94, none, none, .objs [], .pk (.v 91) (.v 93) (.c (.sc (.bool false)))⟩,
  ⟨some 95, none, none, .objs [], .mv (.v 94)⟩,
  ⟨some 96, some (95, true), none, .objs [], .mv (.v 20)⟩] ++ mkL [95, 96] ([
  ⟨some 97, some (95, true), none, .objs [], .bin .eql false (.v 96) (.c (.sc (.int .i64 5)))⟩,
  ⟨some 98, none, none, .objs [], .pk (.v 95) (.v 97) (.c (.sc (.bool false)))⟩,
  ⟨some 8, none, none, .objs [], .mv (.v 98)⟩]))) <|
  .ret

theorem il8_eq : cFn Try.prog pol 8 = some ⟨99, il8c, [(8, none)]⟩ := by kernel_rfl
theorem raw8_6_9 {e : FEnv} {h : Heap} : iStep Try.prog pol 8 e h (.raw (opOf Try.prog 8 6 9)) = vOf h (binE Try.prog true 28 (.tmp 46) (.tmp 47) (Src.get e (.v 46)) (Src.get e (.v 47))) := raw_neq (x := (.tmp 46)) (y := (.tmp 47)) (s := 28) (by kernel_rfl)

noncomputable def il9l0b : C :=
  .seq (.ops ([
  ⟨some 34, none, none, .objs [], .bin .lss false (.v 33) (.v 32)⟩])) <|
  .seq (.cond (.v 34) (.nop) (.exit 0)) <|
  .seq (.block 1 (.seq (.ops ([
    ⟨some 35, none, none, .objs [], .iaS 6 (.v 31) (.v 33)⟩,
    ⟨some 36, none, none, .objs [], .ld true 6 (.v 35)⟩,
    ⟨some 7, none, none, .objs [], .nw 6 (.agg [(.sc (.int .i64 0)), (.sc (.int .i64 0)), (.sc (.int .i64 0)), (.sc (.int .i64 0)), (.sc (.int .i64 0)), (.sc (.int .i64 0))])⟩,
    ⟨none, none, none, .objs [], .st 6 (.v 7) (.v 36)⟩])) <|
    .seq (.ops ([
    ⟨some 37, none, none, .objs [], .ld true 6 (.v 7)⟩,
    ⟨some 38, none, none, .objs [], .call (.c (.fn (.func 12) [] [])) [(.v 37)]⟩,
    ⟨some 39, none, none, .objs [], .nt (.v 38)⟩])) <|
    .cond (.v 39) (.seq (.ops ([
      ⟨some 40, none, none, .objs [], .mv (.v 4)⟩,
      ⟨some 41, none, none, .objs [], .bin .eql false (.v 40) (.c (.sc (.int .i64 0)))⟩,
      ⟨some 42, none, none, .objs [], .mv (.v 41)⟩,
      ⟨some 43, some (42, true), none, .objs [], .mv (.v 5)⟩,
      ⟨some 44, some (42, true), none, .objs [], .bin .eql false (.v 43) (.c (.sc (.int .i64 280)))⟩,
      ⟨some 45, none, none, .objs [], .pk (.v 42) (.v 44) (.c (.sc (.bool false)))⟩] ++ mkL [45] ([
      ⟨some 2, none, none, .objs [], .mv (.v 45)⟩]))) <|
      .ret) (.nop))) <|
  .ops ([
  ⟨some 46, none, none, .objs [], .bin .add false (.v 33) (.c (.sc (.int .i64 1)))⟩,
  ⟨some 33, none, none, .objs [], .mv (.v 46)⟩])
noncomputable def il9l0 : C := il9l0b
theorem il9l0_go {P : Program} {pol : Pol} {K : Oracle} {I : Inl} {n : Nat} {f : FuncId} {R : Xit → FEnv → Heap → Prop} {e : FEnv} {h : Heap} : wc P pol K I n f il9l0 R e h = wc P pol K I n f il9l0b R e h := (fun x => x) rfl

/-- isochron/isochronlaw18.VectorBests -/
noncomputable def il9c : C :=
  .seq (.ops ([
  ⟨some 2, none, none, .objs [], .mv (.c (.sc (.bool false)))⟩])) <|
  .seq (.seq (.ops ([
  ⟨some 8, none, none, .objs [], .call (.c (.fn (.func 11) [] [])) []⟩,
  ⟨some 9, none, none, .objs [], .nt (.v 8)⟩])) <|
  .cond (.v 9) (.seq (.ops ([
    ⟨some 2, none, none, .objs [], .mv (.c (.sc (.bool false)))⟩])) <|
    .ret) (.nop)) <|
  .seq (.ops ([
  ⟨some 10, none, none, .objs [], .bs false 6 (.agg [(.sc (.int .i64 0)), (.sc (.int .i64 0)), (.sc (.int .i64 0)), (.sc (.int .i64 0)), (.sc (.int .i64 0)), (.sc (.int .i64 0))]) 0 []⟩,
  ⟨some 11, none, none, .objs [], .mv (.v 0)⟩,
  ⟨some 12, none, none, .objs [], .mv (.v 0)⟩,
  ⟨some 13, none, none, .objs [], .lenS (.v 12)⟩,
  ⟨some 14, none, none, .objs [], .mnx false (.v 13) (.c (.sc (.int .i64 30)))⟩,
  ⟨some 15, none, none, .objs [], .sl 6 (.v 11) none (some (.v 14)) none⟩,
  ⟨some 16, none, none, .objs [], .app 6 48 (.v 10) (.v 15)⟩,
  ⟨some 3, none, none, .objs [], .mv (.v 16)⟩])) <|
  .seq (.ops ([
  ⟨some 18, none, none, .objs [], .mv (.v 3)⟩,
  ⟨some 19, none, none, .objs [], .call (.c (.fn (.func 27) [] [])) [(.v 18)]⟩] ++ mkL [3, 19] ([
  ⟨some 17, none, none, .objs [], .mv (.v 19)⟩,
  ⟨some 20, none, none, .objs [], .ex (.v 17) 0⟩,
  ⟨some 21, none, none, .objs [], .ex (.v 17) 1⟩,
  ⟨some 4, none, none, .objs [], .mv (.v 20)⟩,
  ⟨some 5, none, none, .objs [], .mv (.v 21)⟩]))) <|
  .seq (.seq (.ops ([
  ⟨some 22, none, none, .objs [], .mv (.v 3)⟩,
  ⟨some 23, none, none, .objs [], .lenS (.v 22)⟩,
  ⟨some 24, none, none, .objs [], .bin .eql false (.v 23) (.c (.sc (.int .i64 0)))⟩])) <|
  .cond (.v 24) (.seq (.ops ([
    ⟨some 25, none, none, .objs [], .mv (.v 4)⟩,
    ⟨some 26, none, none, .objs [], .bin .eql false (.v 25) (.c (.sc (.int .i64 0)))⟩,
    ⟨some 27, none, none, .objs [], .mv (.v 26)⟩,
    ⟨some 28, some (27, true), none, .objs [], .mv (.v 5)⟩,
    ⟨some 29, some (27, true), none, .objs [], .bin .eql false (.v 28) (.c (.sc (.int .i64 4)))⟩,
    ⟨some 30, none, none, .objs [], .pk (.v 27) (.v 29) (.c (.sc (.bool false)))⟩] ++ mkL [30] ([
    ⟨some 2, none, none, .objs [], .mv (.v 30)⟩]))) <|
    .ret) (.nop)) <|
  .seq (.seq (.ops ([
  ⟨some 31, none, none, .objs [], .mv (.v 3)⟩,
  ⟨some 32, none, none, .objs [], .lenS (.v 31)⟩,
  ⟨some 33, none, none, .objs [], .mv (.c (.sc (.int .i64 0)))⟩])) <|
  .block 0 (.loop (some [3, 4, 5, 31, 32, 33]) il9l0)) <|
  .seq (.ops ([
  ⟨some 47, none, none, .objs [], .mv (.v 5)⟩,
  ⟨some 48, none, none, .objs [], .bin .eql false (.v 47) (.c (.sc (.int .i64 0)))⟩,
  ⟨some 49, none, none, .objs [], .mv (.v 48)⟩,
  ⟨some 50, some (49, true), none, .objs [], .mv (.v 4)⟩,
  ⟨some 51, some (49, true), none, .objs [], .mv (.v 3)⟩,
  ⟨some 52, some (49, true), none, .objs [], .call (.c (.fn (.func 28) [] [])) [(.v 51)]⟩,
  ⟨some 53, some (49, true), none, .objs [], .bin .eql false (.v 50) (.v 52)⟩,
  ⟨some 54, none, none, .objs [], .pk (.v 49) (.v 53) (.c (.sc (.bool false)))⟩,
  ⟨some 2, none, none, .objs [], .mv (.v 54)⟩])) <|
  .ret

theorem il9_eq : cFn Try.prog pol 9 = some ⟨55, il9c, [(2, none)]⟩ := by kernel_rfl

/-- isochron/isochronref18.Right -/
noncomputable def il12c : C :=
  .seq (.ops ([
  ⟨some 1, none, none, .objs [], .bx false (.v 0)⟩,
  ⟨some 2, none, none, .objs [], .mv (.c (.sc (.bool false)))⟩])) <|
  .seq (.ops ([
  ⟨some 3, none, none, .objs [], .fa 0 (.v 1)⟩,
  ⟨some 4, none, none, .objs [], .ld true 2 (.v 3)⟩,
  ⟨some 5, none, none, .objs [], .call (.c (.fn (.func 19) [] [])) [(.v 4)]⟩,
  ⟨some 6, none, none, .objs [], .mv (.v 5)⟩,
  ⟨some 7, some (6, true), none, .objs [], .fa 3 (.v 1)⟩,
  ⟨some 8, some (6, true), none, .objs [], .ld true 2 (.v 7)⟩,
  ⟨some 9, some (6, true), none, .objs [], .call (.c (.fn (.func 19) [] [])) [(.v 8)]⟩,
  ⟨some 10, none, none, .objs [], .pk (.v 6) (.v 9) (.c (.sc (.bool false)))⟩,
  ⟨some 11, none, none, .objs [], .mv (.v 10)⟩,
  ⟨some 12, some (11, true), none, .objs [], .fa 2 (.v 1)⟩,
  ⟨some 13, some (11, true), none, .objs [], .ld false 1 (.v 12)⟩,
  ⟨some 14, some (11, true), none, .objs [], .bin .geq false (.v 13) (.c (.sc (.int .i64 0)))⟩] ++ mkL [1, 11, 14] ([
  ⟨some 15, none, none, .objs [], .pk (.v 11) (.v 14) (.c (.sc (.bool false)))⟩,
  ⟨some 16, none, none, .objs [], .mv (.v 15)⟩,
  ⟨some 17, some (16, true), none, .objs [], .fa 2 (.v 1)⟩,
  ⟨some 18, some (16, true), none, .objs [], .ld false 1 (.v 17)⟩,
  ⟨some 19, some (16, true), none, .objs [], .bin .leq false (.v 18) (.c (.sc (.int .i64 1048576)))⟩,
  ⟨some 20, none, none, .objs [], .pk (.v 16) (.v 19) (.c (.sc (.bool false)))⟩,
  ⟨some 21, none, none, .objs [], .mv (.v 20)⟩,
  ⟨some 22, some (21, true), none, .objs [], .fa 5 (.v 1)⟩,
  ⟨some 23, some (21, true), none, .objs [], .ld false 1 (.v 22)⟩,
  ⟨some 24, some (21, true), none, .objs [], .bin .geq false (.v 23) (.c (.sc (.int .i64 0)))⟩,
  ⟨some 25, none, none, .objs [], .pk (.v 21) (.v 24) (.c (.sc (.bool false)))⟩,
  ⟨some 26, none, none, .objs [], .mv (.v 25)⟩,
  ⟨some 27, some (26, true), none, .objs [], .fa 5 (.v 1)⟩,
  ⟨some 28, some (26, true), none, .objs [], .ld false 1 (.v 27)⟩] ++ mkL [26, 28] ([
  ⟨some 29, some (26, true), none, .objs [], .bin .leq false (.v 28) (.c (.sc (.int .i64 47)))⟩,
  ⟨some 30, none, none, .objs [], .pk (.v 26) (.v 29) (.c (.sc (.bool false)))⟩,
  ⟨some 2, none, none, .objs [], .mv (.v 30)⟩])))) <|
  .ret

theorem il12_eq : cFn Try.prog pol 12 = some ⟨31, il12c, [(2, none)]⟩ := by kernel_rfl

/-- isochron/isochronref18.Hello -/
noncomputable def il13c : C :=
  .seq (.ops ([
  ⟨some 1, none, none, .objs [], .bx false (.v 0)⟩,
  ⟨some 2, none, none, .objs [], .mv (.c (.sc (.bool false)))⟩])) <|
  .seq (.ops ([
  ⟨some 3, none, none, .objs [], .fa 0 (.v 1)⟩,
  ⟨some 4, none, none, .objs [], .ld true 6 (.v 3)⟩,
  ⟨some 5, none, none, .objs [], .call (.c (.fn (.func 12) [] [])) [(.v 4)]⟩,
  ⟨some 6, none, none, .objs [], .mv (.v 5)⟩,
  ⟨some 7, some (6, true), none, .objs [], .fa 6 (.v 1)⟩,
  ⟨some 8, some (6, true), none, .objs [], .ld false 1 (.v 7)⟩,
  ⟨some 9, some (6, true), none, .objs [], .bin .geq false (.v 8) (.c (.sc (.int .i64 0)))⟩,
  ⟨some 10, none, none, .objs [], .pk (.v 6) (.v 9) (.c (.sc (.bool false)))⟩,
  ⟨some 11, none, none, .objs [], .mv (.v 10)⟩,
  ⟨some 12, some (11, true), none, .objs [], .fa 6 (.v 1)⟩,
  ⟨some 13, some (11, true), none, .objs [], .ld false 1 (.v 12)⟩,
  ⟨some 14, some (11, true), none, .objs [], .bin .leq false (.v 13) (.c (.sc (.int .i64 20)))⟩] ++ mkL [11, 14] ([
  ⟨some 15, none, none, .objs [], .pk (.v 11) (.v 14) (.c (.sc (.bool false)))⟩,
  ⟨some 2, none, none, .objs [], .mv (.v 15)⟩]))) <|
  .ret

theorem il13_eq : cFn Try.prog pol 13 = some ⟨16, il13c, [(2, none)]⟩ := by kernel_rfl

/-- isochron/vector.Check -/
noncomputable def il14c : C :=
  .seq (.ops ([
  ⟨some 1, none, none, .objs [], .bx false (.v 0)⟩,
  ⟨some 2, none, none, .objs [], .mv (.c (.sc (.int .i64 0)))⟩])) <|
  .seq (.seq (.ops ([
  ⟨some 3, none, none, .objs [], .fa 0 (.v 1)⟩,
  ⟨some 4, none, none, .objs [], .ld true 2 (.v 3)⟩,
  ⟨some 5, none, none, .objs [], .call (.c (.fn (.func 30) [] [])) [(.v 4)]⟩,
  ⟨some 6, none, none, .objs [], .nt (.v 5)⟩,
  ⟨some 7, none, none, .objs [], .mv (.v 6)⟩,
  ⟨some 8, some (7, false), none, .objs [], .fa 3 (.v 1)⟩,
  ⟨some 9, some (7, false), none, .objs [], .ld true 2 (.v 8)⟩,
  ⟨some 10, some (7, false), none, .objs [], .call (.c (.fn (.func 30) [] [])) [(.v 9)]⟩,
  ⟨some 11, some (7, false), none, .objs [], .nt (.v 10)⟩,
  ⟨some 12, none, none, .objs [], .pk (.v 7) (.c (.sc (.bool true))) (.v 11)⟩,
  ⟨some 13, none, none, .objs [], .mv (.v 12)⟩,
  ⟨some 14, some (13, false), none, .objs [], .fa 2 (.v 1)⟩] ++ mkL [1, 13, 14] ([
  ⟨some 15, some (13, false), none, .objs [], .ld false 1 (.v 14)⟩,
  ⟨some 16, some (13, false), none, .objs [], .call (.c (.fn (.func 31) [] [])) [(.v 15), (.c (.sc (.int .i64 0))), (.c (.sc (.int .i64 1048576)))]⟩,
  ⟨some 17, some (13, false), none, .objs [], .nt (.v 16)⟩,
  ⟨some 18, none, none, .objs [], .pk (.v 13) (.c (.sc (.bool true))) (.v 17)⟩,
  ⟨some 19, none, none, .objs [], .mv (.v 18)⟩,
  ⟨some 20, some (19, false), none, .objs [], .fa 5 (.v 1)⟩,
  ⟨some 21, some (19, false), none, .objs [], .ld false 1 (.v 20)⟩,
  ⟨some 22, some (19, false), none, .objs [], .call (.c (.fn (.func 32) [] [])) [(.v 21)]⟩,
  ⟨some 23, some (19, false), none, .objs [], .nt (.v 22)⟩,
  ⟨some 24, none, none, .objs [], .pk (.v 19) (.c (.sc (.bool true))) (.v 23)⟩]))) <|
  .cond (.v 24) (.seq (.ops ([
    ⟨some 2, none, none, .objs [], .mv (.c (.sc (.int .i64 280)))⟩])) <|
    .ret) (.nop)) <|
  .seq (.ops ([
  ⟨some 2, none, none, .objs [], .mv (.c (.sc (.int .i64 0)))⟩])) <|
  .ret

theorem il14_eq : cFn Try.prog pol 14 = some ⟨25, il14c, [(2, none)]⟩ := by kernel_rfl

/-- isochron/vector.CheckHello -/
noncomputable def il15c : C :=
  .seq (.ops ([
  ⟨some 1, none, none, .objs [], .bx false (.v 0)⟩,
  ⟨some 2, none, none, .objs [], .mv (.c (.sc (.int .i64 0)))⟩])) <|
  .seq (.seq (.ops ([
  ⟨some 3, none, none, .objs [], .fa 6 (.v 1)⟩,
  ⟨some 4, none, none, .objs [], .ld false 1 (.v 3)⟩,
  ⟨some 5, none, none, .objs [], .call (.c (.fn (.func 31) [] [])) [(.v 4), (.c (.sc (.int .i64 0))), (.c (.sc (.int .i64 20)))]⟩,
  ⟨some 6, none, none, .objs [], .nt (.v 5)⟩])) <|
  .cond (.v 6) (.seq (.ops ([
    ⟨some 2, none, none, .objs [], .mv (.c (.sc (.int .i64 280)))⟩])) <|
    .ret) (.nop)) <|
  .seq (.ops ([
  ⟨some 7, none, none, .objs [], .fa 0 (.v 1)⟩,
  ⟨some 8, none, none, .objs [], .ld true 6 (.v 7)⟩,
  ⟨some 9, none, none, .objs [], .call (.c (.fn (.func 14) [] [])) [(.v 8)]⟩,
  ⟨some 2, none, none, .objs [], .mv (.v 9)⟩])) <|
  .ret

theorem il15_eq : cFn Try.prog pol 15 = some ⟨10, il15c, [(2, none)]⟩ := by kernel_rfl

/-- isochron/isochronref18.Better -/
noncomputable def il16c : C :=
  .seq (.ops ([
  ⟨some 2, none, none, .objs [], .bx false (.v 0)⟩,
  ⟨some 3, none, none, .objs [], .bx false (.v 1)⟩,
  ⟨some 4, none, none, .objs [], .mv (.c (.sc (.bool false)))⟩])) <|
  .seq (.seq (.ops ([
  ⟨some 5, none, none, .objs [], .fa 0 (.v 2)⟩,
  ⟨some 6, none, none, .objs [], .fa 0 (.v 5)⟩,
  ⟨some 7, none, none, .objs [], .ld false 1 (.v 6)⟩,
  ⟨some 8, none, none, .objs [], .fa 0 (.v 3)⟩,
  ⟨some 9, none, none, .objs [], .fa 0 (.v 8)⟩,
  ⟨some 10, none, none, .objs [], .ld false 1 (.v 9)⟩,
  ⟨some 11, none, none, .objs [], .bin .neq false (.v 7) (.v 10)⟩])) <|
  .cond (.v 11) (.seq (.ops ([
    ⟨some 12, none, none, .objs [], .fa 0 (.v 2)⟩,
    ⟨some 13, none, none, .objs [], .fa 0 (.v 12)⟩,
    ⟨some 14, none, none, .objs [], .ld false 1 (.v 13)⟩,
    ⟨some 15, none, none, .objs [], .fa 0 (.v 3)⟩] ++ mkL [14, 15] ([
    ⟨some 16, none, none, .objs [], .fa 0 (.v 15)⟩,
    ⟨some 17, none, none, .objs [], .ld false 1 (.v 16)⟩,
    ⟨some 18, none, none, .objs [], .bin .lss false (.v 14) (.v 17)⟩,
    ⟨some 4, none, none, .objs [], .mv (.v 18)⟩]))) <|
    .ret) (.nop)) <|
  .seq (.seq (.ops ([
  ⟨some 19, none, none, .objs [], .fa 0 (.v 2)⟩,
  ⟨some 20, none, none, .objs [], .fa 1 (.v 19)⟩,
  ⟨some 21, none, none, .objs [], .ld false 1 (.v 20)⟩,
  ⟨some 22, none, none, .objs [], .fa 0 (.v 3)⟩] ++ mkL [2, 3, 21, 22] ([
  ⟨some 23, none, none, .objs [], .fa 1 (.v 22)⟩,
  ⟨some 24, none, none, .objs [], .ld false 1 (.v 23)⟩,
  ⟨some 25, none, none, .objs [], .bin .neq false (.v 21) (.v 24)⟩]))) <|
  .cond (.v 25) (.seq (.ops ([
    ⟨some 26, none, none, .objs [], .fa 0 (.v 2)⟩,
    ⟨some 27, none, none, .objs [], .fa 1 (.v 26)⟩,
    ⟨some 28, none, none, .objs [], .ld false 1 (.v 27)⟩,
    ⟨some 29, none, none, .objs [], .fa 0 (.v 3)⟩,
    ⟨some 30, none, none, .objs [], .fa 1 (.v 29)⟩,
    ⟨some 31, none, none, .objs [], .ld false 1 (.v 30)⟩,
    ⟨some 32, none, none, .objs [], .bin .lss false (.v 28) (.v 31)⟩,
    ⟨some 4, none, none, .objs [], .mv (.v 32)⟩])) <|
    .ret) (.nop)) <|
  .seq (.seq (.ops ([
  ⟨some 33, none, none, .objs [], .fa 2 (.v 2)⟩,
  ⟨some 34, none, none, .objs [], .ld false 1 (.v 33)⟩,
  ⟨some 35, none, none, .objs [], .fa 2 (.v 3)⟩] ++ mkL [2, 3, 34, 35] ([
  ⟨some 36, none, none, .objs [], .ld false 1 (.v 35)⟩,
  ⟨some 37, none, none, .objs [], .bin .neq false (.v 34) (.v 36)⟩]))) <|
  .cond (.v 37) (.seq (.ops ([
    ⟨some 38, none, none, .objs [], .fa 2 (.v 2)⟩,
    ⟨some 39, none, none, .objs [], .ld false 1 (.v 38)⟩,
    ⟨some 40, none, none, .objs [], .fa 2 (.v 3)⟩,
    ⟨some 41, none, none, .objs [], .ld false 1 (.v 40)⟩,
    ⟨some 42, none, none, .objs [], .bin .lss false (.v 39) (.v 41)⟩,
    ⟨some 4, none, none, .objs [], .mv (.v 42)⟩])) <|
    .ret) (.nop)) <|
  .seq (.seq (.ops ([
  ⟨some 43, none, none, .objs [], .fa 3 (.v 2)⟩,
  ⟨some 44, none, none, .objs [], .fa 0 (.v 43)⟩,
  ⟨some 45, none, none, .objs [], .ld false 1 (.v 44)⟩,
  ⟨some 46, none, none, .objs [], .fa 3 (.v 3)⟩,
  ⟨some 47, none, none, .objs [], .fa 0 (.v 46)⟩,
  ⟨some 48, none, none, .objs [], .ld false 1 (.v 47)⟩] ++ mkL [2, 3, 45, 48] ([
  ⟨some 49, none, none, .objs [], .bin .neq false (.v 45) (.v 48)⟩]))) <|
  .cond (.v 49) (.seq (.ops ([
    ⟨some 50, none, none, .objs [], .fa 3 (.v 2)⟩,
    ⟨some 51, none, none, .objs [], .fa 0 (.v 50)⟩,
    ⟨some 52, none, none, .objs [], .ld false 1 (.v 51)⟩,
    ⟨some 53, none, none, .objs [], .fa 3 (.v 3)⟩,
    ⟨some 54, none, none, .objs [], .fa 0 (.v 53)⟩,
    ⟨some 55, none, none, .objs [], .ld false 1 (.v 54)⟩,
    ⟨some 56, none, none, .objs [], .bin .lss false (.v 52) (.v 55)⟩,
    ⟨some 4, none, none, .objs [], .mv (.v 56)⟩])) <|
    .ret) (.nop)) <|
  .seq (.seq (.ops ([
  ⟨some 57, none, none, .objs [], .fa 3 (.v 2)⟩,
  ⟨some 58, none, none, .objs [], .fa 1 (.v 57)⟩,
  ⟨some 59, none, none, .objs [], .ld false 1 (.v 58)⟩,
  ⟨some 60, none, none, .objs [], .fa 3 (.v 3)⟩,
  ⟨some 61, none, none, .objs [], .fa 1 (.v 60)⟩] ++ mkL [2, 3, 59, 61] ([
  ⟨some 62, none, none, .objs [], .ld false 1 (.v 61)⟩,
  ⟨some 63, none, none, .objs [], .bin .neq false (.v 59) (.v 62)⟩]))) <|
  .cond (.v 63) (.seq (.ops ([
    ⟨some 64, none, none, .objs [], .fa 3 (.v 2)⟩,
    ⟨some 65, none, none, .objs [], .fa 1 (.v 64)⟩,
    ⟨some 66, none, none, .objs [], .ld false 1 (.v 65)⟩,
    ⟨some 67, none, none, .objs [], .fa 3 (.v 3)⟩,
    ⟨some 68, none, none, .objs [], .fa 1 (.v 67)⟩,
    ⟨some 69, none, none, .objs [], .ld false 1 (.v 68)⟩,
    ⟨some 70, none, none, .objs [], .bin .lss false (.v 66) (.v 69)⟩,
    ⟨some 4, none, none, .objs [], .mv (.v 70)⟩])) <|
    .ret) (.nop)) <|
  .seq (.ops ([
  ⟨some 71, none, none, .objs [], .fa 5 (.v 2)⟩,
  ⟨some 72, none, none, .objs [], .ld false 1 (.v 71)⟩,
  ⟨some 73, none, none, .objs [], .fa 5 (.v 3)⟩,
  ⟨some 74, none, none, .objs [], .ld false 1 (.v 73)⟩] ++ mkL [72, 74] ([
  ⟨some 75, none, none, .objs [], .bin .lss false (.v 72) (.v 74)⟩,
  ⟨some 4, none, none, .objs [], .mv (.v 75)⟩]))) <|
  .ret

theorem il16_eq : cFn Try.prog pol 16 = some ⟨76, il16c, [(4, none)]⟩ := by kernel_rfl

noncomputable def il17l0b : C :=
  .seq (.ops ([
  ⟨some 17, none, none, .objs [], .bin .lss false (.v 16) (.c (.sc (.int .i64 6)))⟩])) <|
  .seq (.cond (.v 17) (.nop) (.exit 0)) <|
  .seq (.block 1 (.seq (.ops ([
    ⟨some 18, none, none, .objs [], .mv (.v 16)⟩,
    ⟨some 8, none, none, .objs [], .mv (.v 18)⟩])) <|
    .seq (.opsD [] ([
    ⟨some 19, none, none, .objs [], .mv (.v 8)⟩,
    ⟨some 20, none, none, .objs [], .iaA 6 1 (.v 5) (.v 19)⟩,
    ⟨some 21, none, none, .objs [(.v 20)], .ld false 1 (.v 20)⟩,
    ⟨some 22, none, none, .objs [], .mv (.v 8)⟩,
    ⟨some 23, none, none, .objs [], .iaA 6 1 (.v 6) (.v 22)⟩,
    ⟨some 24, none, none, .objs [(.v 23)], .ld false 1 (.v 23)⟩,
    ⟨some 25, none, none, .cal (.c (.fn (.func 34) [] [])) [(.v 21), (.v 24)], .call (.c (.fn (.func 34) [] [])) [(.v 21), (.v 24)]⟩,
    ⟨some 7, none, none, .objs [], .mv (.v 25)⟩])) <|
    .seq (.ops ([
    ⟨some 26, none, none, .objs [], .mv (.v 7)⟩,
    ⟨some 27, none, none, .objs [], .bin .neq false (.v 26) (.c (.sc (.int .i64 0)))⟩])) <|
    .cond (.v 27) (.exit 0) (.nop))) <|
  .ops ([
  ⟨some 28, none, none, .objs [], .bin .add false (.v 16) (.c (.sc (.int .i64 1)))⟩] ++ mkL [5, 6, 7, 28] ([
  ⟨some 16, none, none, .objs [], .mv (.v 28)⟩]))
noncomputable def il17l0 : C := il17l0b
theorem il17l0_go {P : Program} {pol : Pol} {K : Oracle} {I : Inl} {n : Nat} {f : FuncId} {R : Xit → FEnv → Heap → Prop} {e : FEnv} {h : Heap} : wc P pol K I n f il17l0 R e h = wc P pol K I n f il17l0b R e h := (fun x => x) rfl

/-- isochron/vector.Compare -/
noncomputable def il17c : C :=
  .seq (.ops ([
  ⟨some 2, none, none, .objs [], .bx false (.v 0)⟩,
  ⟨some 3, none, none, .objs [], .bx false (.v 1)⟩,
  ⟨some 4, none, none, .objs [], .mv (.c (.sc (.int .i64 0)))⟩])) <|
  .seq (.seq (.ops ([
  ⟨some 9, none, none, .objs [], .ld true 6 (.v 2)⟩,
  ⟨some 10, none, none, .objs [], .ld true 6 (.v 3)⟩,
  ⟨some 11, none, none, .objs [], .raw (opOf Try.prog 17 1 2)⟩])) <|
  .cond (.v 11) (.seq (.ops ([
    ⟨some 4, none, none, .objs [], .mv (.c (.sc (.int .i64 0)))⟩])) <|
    .ret) (.nop)) <|
  .seq (.opsD [(1, 2), (0, 4), (1, 4), (2, 4), (3, 4), (0, 5), (1, 5), (2, 5), (3, 5)] ([
  ⟨some 12, none, none, .objs [(.v 2)], .ld true 6 (.v 2)⟩,
  ⟨some 13, none, none, .cal (.c (.fn (.func 33) [] [])) [(.v 12)], .call (.c (.fn (.func 33) [] [])) [(.v 12)]⟩,
  ⟨some 14, none, none, .objs [(.v 3)], .ld true 6 (.v 3)⟩,
  ⟨some 15, none, none, .cal (.c (.fn (.func 33) [] [])) [(.v 14)], .call (.c (.fn (.func 33) [] [])) [(.v 14)]⟩,
  ⟨some 5, none, none, .objs [], .nw 6 (.agg [(.sc (.int .i64 0)), (.sc (.int .i64 0)), (.sc (.int .i64 0)), (.sc (.int .i64 0)), (.sc (.int .i64 0)), (.sc (.int .i64 0))])⟩,
  ⟨some 6, none, none, .objs [], .nw 6 (.agg [(.sc (.int .i64 0)), (.sc (.int .i64 0)), (.sc (.int .i64 0)), (.sc (.int .i64 0)), (.sc (.int .i64 0)), (.sc (.int .i64 0))])⟩,
  ⟨none, none, none, .objs [(.v 5)], .st 6 (.v 5) (.v 13)⟩] ++ mkL [5, 6, 15] ([
  ⟨none, none, none, .objs [(.v 6)], .st 6 (.v 6) (.v 15)⟩]))) <|
  .seq (.ops ([
  ⟨some 7, none, none, .objs [], .mv (.c (.sc (.int .i64 0)))⟩])) <|
  .seq (.nop) <|
  .seq (.seq (.ops ([
  ⟨some 16, none, none, .objs [], .mv (.c (.sc (.int .i64 0)))⟩])) <|
  .block 0 (.loop (some [5, 6, 7, 16]) il17l0)) <|
  .seq (.ops ([
  ⟨some 29, none, none, .objs [], .mv (.v 7)⟩,
  ⟨some 4, none, none, .objs [], .mv (.v 29)⟩])) <|
  .ret

theorem il17_eq : cFn Try.prog pol 17 = some ⟨30, il17c, [(4, none)]⟩ := by kernel_rfl
theorem raw17_1_2 {e : FEnv} {h : Heap} : iStep Try.prog pol 17 e h (.raw (opOf Try.prog 17 1 2)) = vOf h (binE Try.prog false 25 (.tmp 9) (.tmp 10) (Src.get e (.v 9)) (Src.get e (.v 10))) := raw_eql (x := (.tmp 9)) (y := (.tmp 10)) (s := 25) (by kernel_rfl)

/-- isochron/vector.Extend -/
noncomputable def il18c : C :=
  .seq (.ops ([
  ⟨some 4, none, none, .objs [], .bx false (.v 0)⟩,
  ⟨some 6, none, none, .objs [], .bx false (.v 2)⟩,
  ⟨some 8, none, none, .objs [], .nw 6 (.agg [(.sc (.int .i64 0)), (.sc (.int .i64 0)), (.sc (.int .i64 0)), (.sc (.int .i64 0)), (.sc (.int .i64 0)), (.sc (.int .i64 0))])⟩,
  ⟨some 9, none, none, .objs [], .mv (.c (.sc (.int .i64 0)))⟩])) <|
  .seq (.seq (.ops ([
  ⟨some 11, none, none, .objs [], .ld true 6 (.v 4)⟩,
  ⟨some 12, none, none, .objs [], .call (.c (.fn (.func 14) [] [])) [(.v 11)]⟩,
  ⟨some 10, none, none, .objs [], .mv (.v 12)⟩])) <|
  .seq (.ops ([
  ⟨some 13, none, none, .objs [], .mv (.v 10)⟩,
  ⟨some 14, none, none, .objs [], .bin .neq false (.v 13) (.c (.sc (.int .i64 0)))⟩])) <|
  .cond (.v 14) (.seq (.ops ([
    ⟨some 15, none, none, .objs [], .bd [(.sc (.int .i64 0)), (.sc (.int .i64 0)), (.sc (.int .i64 0)), (.sc (.int .i64 0)), (.sc (.int .i64 0)), (.sc (.int .i64 0))] []⟩,
    ⟨some 16, none, none, .objs [], .mv (.v 10)⟩,
    ⟨none, none, none, .objs [], .st 6 (.v 8) (.v 15)⟩,
    ⟨some 9, none, none, .objs [], .mv (.v 16)⟩])) <|
    .ret) (.nop)) <|
  .seq (.seq (.ops ([
  ⟨some 17, none, none, .objs [], .mv (.v 1)⟩] ++ mkL [1, 3, 4, 6, 8, 17] ([
  ⟨some 18, none, none, .objs [], .call (.c (.fn (.func 31) [] [])) [(.v 17), (.c (.sc (.int .i64 1))), (.c (.sc (.int .i64 1000)))]⟩,
  ⟨some 19, none, none, .objs [], .nt (.v 18)⟩,
  ⟨some 20, none, none, .objs [], .mv (.v 19)⟩,
  ⟨some 21, some (20, false), none, .objs [], .ld true 2 (.v 6)⟩,
  ⟨some 22, some (20, false), none, .objs [], .call (.c (.fn (.func 30) [] [])) [(.v 21)]⟩,
  ⟨some 23, some (20, false), none, .objs [], .nt (.v 22)⟩,
  ⟨some 24, none, none, .objs [], .pk (.v 20) (.c (.sc (.bool true))) (.v 23)⟩,
  ⟨some 25, none, none, .objs [], .mv (.v 24)⟩,
  ⟨some 26, some (25, false), none, .objs [], .mv (.v 3)⟩,
  ⟨some 27, some (25, false), none, .objs [], .call (.c (.fn (.func 32) [] [])) [(.v 26)]⟩,
  ⟨some 28, some (25, false), none, .objs [], .nt (.v 27)⟩,
  ⟨some 29, none, none, .objs [], .pk (.v 25) (.c (.sc (.bool true))) (.v 28)⟩]))) <|
  .cond (.v 29) (.seq (.ops ([
    ⟨some 30, none, none, .objs [], .bd [(.sc (.int .i64 0)), (.sc (.int .i64 0)), (.sc (.int .i64 0)), (.sc (.int .i64 0)), (.sc (.int .i64 0)), (.sc (.int .i64 0))] []⟩,
    ⟨none, none, none, .objs [], .st 6 (.v 8) (.v 30)⟩] ++ mkL [8] ([
    ⟨some 9, none, none, .objs [], .mv (.c (.sc (.int .i64 2)))⟩]))) <|
    .ret) (.nop)) <|
  .seq (.seq (.ops ([
  ⟨some 31, none, none, .objs [], .fa 2 (.v 4)⟩,
  ⟨some 32, none, none, .objs [], .ld false 1 (.v 31)⟩] ++ mkL [1, 3, 4, 6, 8, 32] ([
  ⟨some 33, none, none, .objs [], .mv (.v 1)⟩,
  ⟨some 34, none, none, .objs [], .bin .add false (.v 32) (.v 33)⟩,
  ⟨some 35, none, none, .objs [], .bin .gtr false (.v 34) (.c (.sc (.int .i64 1048576)))⟩]))) <|
  .cond (.v 35) (.seq (.ops ([
    ⟨some 36, none, none, .objs [], .bd [(.sc (.int .i64 0)), (.sc (.int .i64 0)), (.sc (.int .i64 0)), (.sc (.int .i64 0)), (.sc (.int .i64 0)), (.sc (.int .i64 0))] []⟩,
    ⟨none, none, none, .objs [], .st 6 (.v 8) (.v 36)⟩,
    ⟨some 9, none, none, .objs [], .mv (.c (.sc (.int .i64 6)))⟩])) <|
    .ret) (.nop)) <|
  .seq (.ops ([
  ⟨some 37, none, none, .objs [], .fa 0 (.v 4)⟩,
  ⟨some 38, none, none, .objs [], .ld true 2 (.v 37)⟩,
  ⟨some 39, none, none, .objs [], .fa 2 (.v 4)⟩,
  ⟨some 40, none, none, .objs [], .ld false 1 (.v 39)⟩,
  ⟨some 41, none, none, .objs [], .mv (.v 1)⟩,
  ⟨some 42, none, none, .objs [], .bin .add false (.v 40) (.v 41)⟩,
  ⟨some 43, none, none, .objs [], .ld true 2 (.v 6)⟩,
  ⟨some 44, none, none, .objs [], .mv (.v 3)⟩] ++ mkL [8, 38, 42, 43, 44] ([
  ⟨some 45, none, none, .objs [], .bd [(.sc (.int .i64 0)), (.sc (.int .i64 0)), (.sc (.int .i64 0)), (.sc (.int .i64 0)), (.sc (.int .i64 0)), (.sc (.int .i64 0))] [(0, 2, (.v 38)), (2, 1, (.v 42)), (3, 2, (.v 43)), (5, 1, (.v 44))]⟩,
  ⟨none, none, none, .objs [], .st 6 (.v 8) (.v 45)⟩,
  ⟨some 9, none, none, .objs [], .mv (.c (.sc (.int .i64 0)))⟩]))) <|
  .ret

theorem il18_eq : cFn Try.prog pol 18 = some ⟨46, il18c, [(8, some (true, 6)), (9, none)]⟩ := by kernel_rfl

/-- isochron/isochronref18.Bid -/
noncomputable def il19c : C :=
  .seq (.ops ([
  ⟨some 1, none, none, .objs [], .bx false (.v 0)⟩,
  ⟨some 2, none, none, .objs [], .mv (.c (.sc (.bool false)))⟩])) <|
  .seq (.ops ([
  ⟨some 3, none, none, .objs [], .fa 0 (.v 1)⟩,
  ⟨some 4, none, none, .objs [], .ld false 1 (.v 3)⟩,
  ⟨some 5, none, none, .objs [], .bin .geq false (.v 4) (.c (.sc (.int .i64 0)))⟩,
  ⟨some 6, none, none, .objs [], .mv (.v 5)⟩,
  ⟨some 7, some (6, true), none, .objs [], .fa 0 (.v 1)⟩,
  ⟨some 8, some (6, true), none, .objs [], .ld false 1 (.v 7)⟩,
  ⟨some 9, some (6, true), none, .objs [], .bin .leq false (.v 8) (.c (.sc (.int .i64 15)))⟩,
  ⟨some 10, none, none, .objs [], .pk (.v 6) (.v 9) (.c (.sc (.bool false)))⟩,
  ⟨some 11, none, none, .objs [], .mv (.v 10)⟩,
  ⟨some 12, some (11, true), none, .objs [], .fa 1 (.v 1)⟩,
  ⟨some 13, some (11, true), none, .objs [], .ld false 1 (.v 12)⟩,
  ⟨some 14, some (11, true), none, .objs [], .bin .geq false (.v 13) (.c (.sc (.int .i64 0)))⟩] ++ mkL [1, 11, 14] ([
  ⟨some 15, none, none, .objs [], .pk (.v 11) (.v 14) (.c (.sc (.bool false)))⟩,
  ⟨some 16, none, none, .objs [], .mv (.v 15)⟩,
  ⟨some 17, some (16, true), none, .objs [], .fa 1 (.v 1)⟩,
  ⟨some 18, some (16, true), none, .objs [], .ld false 1 (.v 17)⟩,
  ⟨some 19, some (16, true), none, .objs [], .bin .leq false (.v 18) (.c (.sc (.int .i64 11)))⟩,
  ⟨some 20, none, none, .objs [], .pk (.v 16) (.v 19) (.c (.sc (.bool false)))⟩,
  ⟨some 2, none, none, .objs [], .mv (.v 20)⟩]))) <|
  .ret

theorem il19_eq : cFn Try.prog pol 19 = some ⟨21, il19c, [(2, none)]⟩ := by kernel_rfl

/-- isochron/vector.Encode -/
noncomputable def il20c : C :=
  .seq (.ops ([
  ⟨some 1, none, none, .objs [], .bx false (.v 0)⟩,
  ⟨some 2, none, none, .objs [], .mv (.c (.sc (.slice none 0 0)))⟩,
  ⟨some 3, none, none, .objs [], .mv (.c (.sc (.int .i64 0)))⟩])) <|
  .seq (.seq (.ops ([
  ⟨some 7, none, none, .objs [], .ld true 7 (.v 1)⟩,
  ⟨some 8, none, none, .objs [], .call (.c (.fn (.func 15) [] [])) [(.v 7)]⟩,
  ⟨some 4, none, none, .objs [], .mv (.v 8)⟩])) <|
  .seq (.ops ([
  ⟨some 9, none, none, .objs [], .mv (.v 4)⟩,
  ⟨some 10, none, none, .objs [], .bin .neq false (.v 9) (.c (.sc (.int .i64 0)))⟩])) <|
  .cond (.v 10) (.seq (.ops ([
    ⟨some 11, none, none, .objs [], .mv (.v 4)⟩,
    ⟨some 2, none, none, .objs [], .mv (.c (.sc (.slice none 0 0)))⟩,
    ⟨some 3, none, none, .objs [], .mv (.v 11)⟩])) <|
    .ret) (.nop)) <|
  .seq (.ops ([
  ⟨some 12, none, none, .objs [], .fa 0 (.v 1)⟩,
  ⟨some 13, none, none, .objs [], .ld true 6 (.v 12)⟩,
  ⟨some 5, none, none, .objs [], .nw 6 (.agg [(.sc (.int .i64 0)), (.sc (.int .i64 0)), (.sc (.int .i64 0)), (.sc (.int .i64 0)), (.sc (.int .i64 0)), (.sc (.int .i64 0))])⟩] ++ mkL [1, 5, 13] ([
  ⟨none, none, none, .objs [], .st 6 (.v 5) (.v 13)⟩]))) <|
  .seq (.ops ([
  ⟨some 14, none, none, .objs [], .raw (opOf Try.prog 20 5 0)⟩,
  ⟨some 15, none, none, .objs [], .bs false 1 (.sc (.int .i64 0)) 3 [(0, (.c (.sc (.int .i64 83)))), (1, (.c (.sc (.int .i64 84)))), (2, (.c (.sc (.int .i64 1))))]⟩,
  ⟨some 16, none, none, .objs [], .call (.c (.fn (.func 35) [] [])) [(.v 14), (.v 15)]⟩,
  ⟨some 6, none, none, .objs [], .mv (.v 16)⟩])) <|
  .seq (.ops ([
  ⟨some 17, none, none, .objs [], .mv (.v 6)⟩,
  ⟨some 18, none, none, .objs [], .fa 0 (.v 5)⟩,
  ⟨some 19, none, none, .objs [], .fa 0 (.v 18)⟩,
  ⟨some 20, none, none, .objs [], .ld false 1 (.v 19)⟩,
  ⟨some 21, none, none, .objs [], .bin .mul false (.c (.sc (.int .i64 16))) (.v 20)⟩,
  ⟨some 22, none, none, .objs [], .fa 0 (.v 5)⟩,
  ⟨some 23, none, none, .objs [], .fa 1 (.v 22)⟩,
  ⟨some 24, none, none, .objs [], .ld false 1 (.v 23)⟩,
  ⟨some 25, none, none, .objs [], .bin .add false (.v 21) (.v 24)⟩] ++ mkL [1, 5, 17, 25] ([
  ⟨some 26, none, none, .objs [], .bs false 1 (.sc (.int .i64 0)) 1 [(0, (.v 25))]⟩,
  ⟨some 27, none, none, .objs [], .call (.c (.fn (.func 35) [] [])) [(.v 17), (.v 26)]⟩,
  ⟨some 6, none, none, .objs [], .mv (.v 27)⟩]))) <|
  .seq (.ops ([
  ⟨some 28, none, none, .objs [], .mv (.v 6)⟩,
  ⟨some 29, none, none, .objs [], .fa 2 (.v 5)⟩,
  ⟨some 30, none, none, .objs [], .ld false 1 (.v 29)⟩,
  ⟨some 31, none, none, .objs [], .bin .shr false (.v 30) (.c (.sc (.int .u64 24)))⟩,
  ⟨some 32, none, none, .objs [], .fa 2 (.v 5)⟩,
  ⟨some 33, none, none, .objs [], .ld false 1 (.v 32)⟩,
  ⟨some 34, none, none, .objs [], .bin .shr false (.v 33) (.c (.sc (.int .u64 16)))⟩,
  ⟨some 35, none, none, .objs [], .fa 2 (.v 5)⟩,
  ⟨some 36, none, none, .objs [], .ld false 1 (.v 35)⟩,
  ⟨some 37, none, none, .objs [], .bin .shr false (.v 36) (.c (.sc (.int .u64 8)))⟩,
  ⟨some 38, none, none, .objs [], .fa 2 (.v 5)⟩] ++ mkL [1, 5, 28, 31, 34, 37, 38] ([
  ⟨some 39, none, none, .objs [], .ld false 1 (.v 38)⟩,
  ⟨some 40, none, none, .objs [], .bs false 1 (.sc (.int .i64 0)) 4 [(0, (.v 31)), (1, (.v 34)), (2, (.v 37)), (3, (.v 39))]⟩,
  ⟨some 41, none, none, .objs [], .call (.c (.fn (.func 35) [] [])) [(.v 28), (.v 40)]⟩,
  ⟨some 6, none, none, .objs [], .mv (.v 41)⟩]))) <|
  .seq (.ops ([
  ⟨some 42, none, none, .objs [], .mv (.v 6)⟩,
  ⟨some 43, none, none, .objs [], .fa 3 (.v 5)⟩,
  ⟨some 44, none, none, .objs [], .fa 0 (.v 43)⟩,
  ⟨some 45, none, none, .objs [], .ld false 1 (.v 44)⟩,
  ⟨some 46, none, none, .objs [], .bin .mul false (.c (.sc (.int .i64 16))) (.v 45)⟩,
  ⟨some 47, none, none, .objs [], .fa 3 (.v 5)⟩,
  ⟨some 48, none, none, .objs [], .fa 1 (.v 47)⟩,
  ⟨some 49, none, none, .objs [], .ld false 1 (.v 48)⟩,
  ⟨some 50, none, none, .objs [], .bin .add false (.v 46) (.v 49)⟩,
  ⟨some 51, none, none, .objs [], .fa 5 (.v 5)⟩] ++ mkL [1, 42, 50, 51] ([
  ⟨some 52, none, none, .objs [], .ld false 1 (.v 51)⟩,
  ⟨some 53, none, none, .objs [], .fa 6 (.v 1)⟩,
  ⟨some 54, none, none, .objs [], .ld false 1 (.v 53)⟩,
  ⟨some 55, none, none, .objs [], .bs false 1 (.sc (.int .i64 0)) 3 [(0, (.v 50)), (1, (.v 52)), (2, (.v 54))]⟩,
  ⟨some 56, none, none, .objs [], .call (.c (.fn (.func 35) [] [])) [(.v 42), (.v 55)]⟩,
  ⟨some 6, none, none, .objs [], .mv (.v 56)⟩]))) <|
  .seq (.ops ([
  ⟨some 57, none, none, .objs [], .mv (.v 6)⟩,
  ⟨some 58, none, none, .objs [], .mv (.v 6)⟩,
  ⟨some 59, none, none, .objs [], .call (.c (.fn (.func 36) [] [])) [(.v 58)]⟩,
  ⟨some 60, none, none, .objs [], .bs false 1 (.sc (.int .u8 0)) 1 [(0, (.v 59))]⟩,
  ⟨some 61, none, none, .objs [], .app 1 1 (.v 57) (.v 60)⟩,
  ⟨some 2, none, none, .objs [], .mv (.v 61)⟩,
  ⟨some 3, none, none, .objs [], .mv (.c (.sc (.int .i64 0)))⟩])) <|
  .ret

theorem il20_eq : cFn Try.prog pol 20 = some ⟨62, il20c, [(2, none), (3, none)]⟩ := by kernel_rfl
theorem raw20_5_0 {e : FEnv} {h : Heap} : iStep Try.prog pol 20 e h (.raw (opOf Try.prog 20 5 0)) = mkSl 1 1 (.sc (.int .u8 0)) h (asNat (Src.get e (.c (.sc (.int .i64 0))))) (asNat (Src.get e (.c (.sc (.int .i64 12))))) := raw_makeSlice (t := 41) (l := (.const (.int .i64 0))) (c := (.const (.int .i64 12))) (elem := 5) (by kernel_rfl) (by kernel_rfl) (by kernel_rfl) (by kernel_rfl) (by kernel_rfl) (by kernel_rfl)

noncomputable def il21l0b : C :=
  .seq (.ops ([
  ⟨some 14, none, none, .objs [], .bin .lss false (.v 13) (.v 12)⟩])) <|
  .seq (.cond (.v 14) (.nop) (.exit 0)) <|
  .seq (.block 1 (.seq (.ops ([
    ⟨some 15, none, none, .objs [], .mv (.v 13)⟩,
    ⟨some 5, none, none, .objs [], .mv (.v 15)⟩])) <|
    .seq (.opsD [] ([
    ⟨some 16, none, none, .objs [], .mv (.v 0)⟩,
    ⟨some 17, none, none, .objs [], .mv (.v 5)⟩,
    ⟨some 18, none, none, .objs [], .iaS 1 (.v 16) (.v 17)⟩,
    ⟨some 19, none, none, .objs [(.v 18)], .ld false 1 (.v 18)⟩,
    ⟨some 20, none, none, .objs [], .mv (.v 1)⟩,
    ⟨some 21, none, none, .objs [], .mv (.v 5)⟩,
    ⟨some 22, none, none, .objs [], .iaS 1 (.v 20) (.v 21)⟩,
    ⟨some 23, none, none, .objs [(.v 22)], .ld false 1 (.v 22)⟩,
    ⟨some 24, none, none, .objs [], .bin .neq false (.v 19) (.v 23)⟩])) <|
    .cond (.v 24) (.seq (.ops ([
      ⟨some 4, none, none, .objs [], .mv (.c (.sc (.bool false)))⟩])) <|
      .ret) (.nop))) <|
  .ops ([
  ⟨some 25, none, none, .objs [], .bin .add false (.v 13) (.c (.sc (.int .i64 1)))⟩] ++ mkL [0, 1, 12, 25] ([
  ⟨some 13, none, none, .objs [], .mv (.v 25)⟩]))
noncomputable def il21l0 : C := il21l0b
theorem il21l0_go {P : Program} {pol : Pol} {K : Oracle} {I : Inl} {n : Nat} {f : FuncId} {R : Xit → FEnv → Heap → Prop} {e : FEnv} {h : Heap} : wc P pol K I n f il21l0 R e h = wc P pol K I n f il21l0b R e h := (fun x => x) rfl

/-- slices.Equal[[]byte,byte] -/
noncomputable def il21c : C :=
  .seq (.ops ([
  ⟨some 4, none, none, .objs [], .mv (.c (.sc (.bool false)))⟩])) <|
  .seq (.seq (.ops ([
  ⟨some 6, none, none, .objs [], .mv (.v 0)⟩,
  ⟨some 7, none, none, .objs [], .lenS (.v 6)⟩,
  ⟨some 8, none, none, .objs [], .mv (.v 1)⟩,
  ⟨some 9, none, none, .objs [], .lenS (.v 8)⟩,
  ⟨some 10, none, none, .objs [], .bin .neq false (.v 7) (.v 9)⟩])) <|
  .cond (.v 10) (.seq (.ops ([
    ⟨some 4, none, none, .objs [], .mv (.c (.sc (.bool false)))⟩])) <|
    .ret) (.nop)) <|
  .seq (.seq (.ops ([
  ⟨some 11, none, none, .objs [], .mv (.v 0)⟩,
  ⟨some 12, none, none, .objs [], .lenS (.v 11)⟩,
  ⟨some 13, none, none, .objs [], .mv (.c (.sc (.int .i64 0)))⟩])) <|
  .block 0 (.loop (some [0, 1, 12, 13]) il21l0)) <|
  .seq (.ops ([
  ⟨some 4, none, none, .objs [], .mv (.c (.sc (.bool true)))⟩])) <|
  .ret

theorem il21_eq : cFn Try.prog pol 21 = some ⟨26, il21c, [(4, none)]⟩ := by kernel_rfl

noncomputable def il22l0b : C :=
  .seq (.seq (.ops ([
  ⟨some 52, none, none, .objs [], .mv (.v 6)⟩,
  ⟨some 53, none, none, .objs [], .mv (.v 4)⟩,
  ⟨some 54, none, none, .objs [], .lenS (.v 53)⟩,
  ⟨some 55, none, none, .objs [], .bin .lss false (.v 52) (.v 54)⟩])) <|
  .cond (.v 55) (.nop) (.exit 0)) <|
  .seq (.block 1 (.ops ([
    ⟨some 58, none, none, .objs [], .mv (.v 5)⟩,
    ⟨some 59, none, none, .objs [], .mv (.v 4)⟩,
    ⟨some 60, none, none, .objs [], .mv (.v 6)⟩,
    ⟨some 61, none, none, .objs [], .iaS 1 (.v 59) (.v 60)⟩,
    ⟨some 62, none, none, .objs [], .ld false 1 (.v 61)⟩,
    ⟨some 63, none, none, .objs [], .cv .i64 (.v 62)⟩,
    ⟨some 64, none, none, .objs [], .bin .add false (.v 58) (.v 63)⟩,
    ⟨some 5, none, none, .objs [], .mv (.v 64)⟩]))) <|
  .ops ([
  ⟨some 56, none, none, .objs [], .mv (.v 6)⟩,
  ⟨some 57, none, none, .objs [], .bin .add false (.v 56) (.c (.sc (.int .i64 1)))⟩] ++ mkL [4, 5, 57] ([
  ⟨some 6, none, none, .objs [], .mv (.v 57)⟩]))
noncomputable def il22l0 : C := il22l0b
theorem il22l0_go {P : Program} {pol : Pol} {K : Oracle} {I : Inl} {n : Nat} {f : FuncId} {R : Xit → FEnv → Heap → Prop} {e : FEnv} {h : Heap} : wc P pol K I n f il22l0 R e h = wc P pol K I n f il22l0b R e h := (fun x => x) rfl

/-- isochron/isochronref18.Bytes -/
noncomputable def il22c : C :=
  .seq (.ops ([
  ⟨some 1, none, none, .objs [], .bx false (.v 0)⟩,
  ⟨some 2, none, none, .objs [], .mv (.c (.sc (.slice none 0 0)))⟩])) <|
  .seq (.ops ([
  ⟨some 7, none, none, .objs [], .fa 0 (.v 1)⟩,
  ⟨some 8, none, none, .objs [], .ld true 6 (.v 7)⟩,
  ⟨some 3, none, none, .objs [], .nw 6 (.agg [(.sc (.int .i64 0)), (.sc (.int .i64 0)), (.sc (.int .i64 0)), (.sc (.int .i64 0)), (.sc (.int .i64 0)), (.sc (.int .i64 0))])⟩,
  ⟨none, none, none, .objs [], .st 6 (.v 3) (.v 8)⟩])) <|
  .seq (.ops ([
  ⟨some 9, none, none, .objs [], .fa 0 (.v 3)⟩,
  ⟨some 10, none, none, .objs [], .fa 0 (.v 9)⟩,
  ⟨some 11, none, none, .objs [], .ld false 1 (.v 10)⟩,
  ⟨some 12, none, none, .objs [], .bin .mul false (.c (.sc (.int .i64 16))) (.v 11)⟩,
  ⟨some 13, none, none, .objs [], .fa 0 (.v 3)⟩,
  ⟨some 14, none, none, .objs [], .fa 1 (.v 13)⟩,
  ⟨some 15, none, none, .objs [], .ld false 1 (.v 14)⟩,
  ⟨some 16, none, none, .objs [], .bin .add false (.v 12) (.v 15)⟩] ++ mkL [1, 3, 16] ([
  ⟨some 17, none, none, .objs [], .cv .u8 (.v 16)⟩,
  ⟨some 18, none, none, .objs [], .fa 2 (.v 3)⟩,
  ⟨some 19, none, none, .objs [], .ld false 1 (.v 18)⟩,
  ⟨some 20, none, none, .objs [], .bin .quo false (.v 19) (.c (.sc (.int .i64 16777216)))⟩,
  ⟨some 21, none, none, .objs [], .cv .u8 (.v 20)⟩,
  ⟨some 22, none, none, .objs [], .fa 2 (.v 3)⟩,
  ⟨some 23, none, none, .objs [], .ld false 1 (.v 22)⟩,
  ⟨some 24, none, none, .objs [], .bin .quo false (.v 23) (.c (.sc (.int .i64 65536)))⟩,
  ⟨some 25, none, none, .objs [], .bin .rem false (.v 24) (.c (.sc (.int .i64 256)))⟩,
  ⟨some 26, none, none, .objs [], .cv .u8 (.v 25)⟩,
  ⟨some 27, none, none, .objs [], .fa 2 (.v 3)⟩,
  ⟨some 28, none, none, .objs [], .ld false 1 (.v 27)⟩,
  ⟨some 29, none, none, .objs [], .bin .quo false (.v 28) (.c (.sc (.int .i64 256)))⟩,
  ⟨some 30, none, none, .objs [], .bin .rem false (.v 29) (.c (.sc (.int .i64 256)))⟩] ++ mkL [1, 3, 17, 21, 26, 30] ([
  ⟨some 31, none, none, .objs [], .cv .u8 (.v 30)⟩,
  ⟨some 32, none, none, .objs [], .fa 2 (.v 3)⟩,
  ⟨some 33, none, none, .objs [], .ld false 1 (.v 32)⟩,
  ⟨some 34, none, none, .objs [], .bin .rem false (.v 33) (.c (.sc (.int .i64 256)))⟩,
  ⟨some 35, none, none, .objs [], .cv .u8 (.v 34)⟩,
  ⟨some 36, none, none, .objs [], .fa 3 (.v 3)⟩,
  ⟨some 37, none, none, .objs [], .fa 0 (.v 36)⟩,
  ⟨some 38, none, none, .objs [], .ld false 1 (.v 37)⟩,
  ⟨some 39, none, none, .objs [], .bin .mul false (.c (.sc (.int .i64 16))) (.v 38)⟩,
  ⟨some 40, none, none, .objs [], .fa 3 (.v 3)⟩,
  ⟨some 41, none, none, .objs [], .fa 1 (.v 40)⟩,
  ⟨some 42, none, none, .objs [], .ld false 1 (.v 41)⟩,
  ⟨some 43, none, none, .objs [], .bin .add false (.v 39) (.v 42)⟩,
  ⟨some 44, none, none, .objs [], .cv .u8 (.v 43)⟩] ++ mkL [1, 3, 17, 21, 26, 31, 35, 44] ([
  ⟨some 45, none, none, .objs [], .fa 5 (.v 3)⟩,
  ⟨some 46, none, none, .objs [], .ld false 1 (.v 45)⟩,
  ⟨some 47, none, none, .objs [], .cv .u8 (.v 46)⟩,
  ⟨some 48, none, none, .objs [], .fa 6 (.v 1)⟩,
  ⟨some 49, none, none, .objs [], .ld false 1 (.v 48)⟩,
  ⟨some 50, none, none, .objs [], .cv .u8 (.v 49)⟩,
  ⟨some 51, none, none, .objs [], .bs false 1 (.sc (.int .u8 0)) 11 [(0, (.c (.sc (.int .u8 83)))), (1, (.c (.sc (.int .u8 84)))), (2, (.c (.sc (.int .u8 1)))), (3, (.v 17)), (4, (.v 21)), (5, (.v 26)), (6, (.v 31)), (7, (.v 35)), (8, (.v 44)), (9, (.v 47)), (10, (.v 50))]⟩,
  ⟨some 4, none, none, .objs [], .mv (.v 51)⟩]))))) <|
  .seq (.ops ([
  ⟨some 5, none, none, .objs [], .mv (.c (.sc (.int .i64 0)))⟩])) <|
  .seq (.seq (.ops ([
  ⟨some 6, none, none, .objs [], .mv (.c (.sc (.int .i64 0)))⟩])) <|
  .block 0 (.loop (some [4, 5, 6]) il22l0)) <|
  .seq (.ops ([
  ⟨some 65, none, none, .objs [], .mv (.v 4)⟩,
  ⟨some 66, none, none, .objs [], .mv (.v 5)⟩,
  ⟨some 67, none, none, .objs [], .bin .rem false (.v 66) (.c (.sc (.int .i64 256)))⟩,
  ⟨some 68, none, none, .objs [], .cv .u8 (.v 67)⟩,
  ⟨some 69, none, none, .objs [], .bs false 1 (.sc (.int .u8 0)) 1 [(0, (.v 68))]⟩,
  ⟨some 70, none, none, .objs [], .app 1 1 (.v 65) (.v 69)⟩,
  ⟨some 2, none, none, .objs [], .mv (.v 70)⟩])) <|
  .ret

theorem il22_eq : cFn Try.prog pol 22 = some ⟨71, il22c, [(2, none)]⟩ := by kernel_rfl

/-- isochron/vector.Decode -/
noncomputable def il23c : C :=
  .seq (.ops ([
  ⟨some 2, none, none, .objs [], .nw 7 (.agg [(.sc (.int .i64 0)), (.sc (.int .i64 0)), (.sc (.int .i64 0)), (.sc (.int .i64 0)), (.sc (.int .i64 0)), (.sc (.int .i64 0)), (.sc (.int .i64 0))])⟩,
  ⟨some 3, none, none, .objs [], .mv (.c (.sc (.int .i64 0)))⟩])) <|
  .seq (.seq (.ops ([
  ⟨some 8, none, none, .objs [], .mv (.v 0)⟩,
  ⟨some 9, none, none, .objs [], .lenS (.v 8)⟩,
  ⟨some 10, none, none, .objs [], .bin .neq false (.v 9) (.c (.sc (.int .i64 12)))⟩])) <|
  .cond (.v 10) (.seq (.ops ([
    ⟨some 11, none, none, .objs [], .bd [(.sc (.int .i64 0)), (.sc (.int .i64 0)), (.sc (.int .i64 0)), (.sc (.int .i64 0)), (.sc (.int .i64 0)), (.sc (.int .i64 0)), (.sc (.int .i64 0))] []⟩,
    ⟨none, none, none, .objs [], .st 7 (.v 2) (.v 11)⟩,
    ⟨some 3, none, none, .objs [], .mv (.c (.sc (.int .i64 5)))⟩])) <|
    .ret) (.nop)) <|
  .seq (.ops ([
  ⟨some 12, none, none, .objs [], .mv (.v 0)⟩,
  ⟨some 13, none, none, .objs [], .sl 1 (.v 12) (some (.c (.sc (.int .i64 3)))) none none⟩,
  ⟨some 14, none, none, .objs [], .bd [(.sc (.slice none 0 0))] [(0, 1, (.v 13))]⟩,
  ⟨some 15, none, none, .objs [], .bd [(.sc (.slice none 0 0))] [(0, 1, (.v 14))]⟩,
  ⟨some 4, none, none, .objs [], .nw 1 (.agg [(.sc (.slice none 0 0))])⟩,
  ⟨none, none, none, .objs [], .st 1 (.v 4) (.v 15)⟩])) <| mkC [0, 2, 4] <|
  .seq (.ops ([
  ⟨some 16, none, none, .objs [], .call (.c (.fn (.func 37) [] [])) [(.v 4)]⟩,
  ⟨some 5, none, none, .objs [], .nw 7 (.agg [(.sc (.int .i64 0)), (.sc (.int .i64 0)), (.sc (.int .i64 0)), (.sc (.int .i64 0)), (.sc (.int .i64 0)), (.sc (.int .i64 0)), (.sc (.int .i64 0))])⟩,
  ⟨none, none, none, .objs [], .st 7 (.v 5) (.v 16)⟩])) <|
  .seq (.ops ([
  ⟨some 18, none, none, .objs [], .ld true 7 (.v 5)⟩,
  ⟨some 19, none, none, .objs [], .call (.c (.fn (.func 20) [] [])) [(.v 18)]⟩,
  ⟨some 17, none, none, .objs [], .mv (.v 19)⟩,
  ⟨some 20, none, none, .objs [], .ex (.v 17) 0⟩,
  ⟨some 21, none, none, .objs [], .ex (.v 17) 1⟩,
  ⟨some 6, none, none, .objs [], .mv (.v 20)⟩,
  ⟨some 7, none, none, .objs [], .mv (.v 21)⟩])) <|
  .seq (.seq (.ops ([
  ⟨some 22, none, none, .objs [], .mv (.v 7)⟩,
  ⟨some 23, none, none, .objs [], .bin .neq false (.v 22) (.c (.sc (.int .i64 0)))⟩,
  ⟨some 24, none, none, .objs [], .mv (.v 23)⟩,
  ⟨some 25, some (24, false), none, .objs [], .mv (.v 6)⟩] ++ mkL [0, 2, 5, 24, 25] ([
  ⟨some 26, some (24, false), none, .objs [], .mv (.v 0)⟩,
  ⟨some 27, some (24, false), none, .objs [], .call (.c (.fn (.func 21) [] [])) [(.v 25), (.v 26)]⟩,
  ⟨some 28, some (24, false), none, .objs [], .nt (.v 27)⟩,
  ⟨some 29, none, none, .objs [], .pk (.v 24) (.c (.sc (.bool true))) (.v 28)⟩]))) <|
  .cond (.v 29) (.seq (.ops ([
    ⟨some 30, none, none, .objs [], .bd [(.sc (.int .i64 0)), (.sc (.int .i64 0)), (.sc (.int .i64 0)), (.sc (.int .i64 0)), (.sc (.int .i64 0)), (.sc (.int .i64 0)), (.sc (.int .i64 0))] []⟩,
    ⟨none, none, none, .objs [], .st 7 (.v 2) (.v 30)⟩,
    ⟨some 3, none, none, .objs [], .mv (.c (.sc (.int .i64 5)))⟩])) <|
    .ret) (.nop)) <|
  .seq (.ops ([
  ⟨some 31, none, none, .objs [], .ld true 7 (.v 5)⟩,
  ⟨none, none, none, .objs [], .st 7 (.v 2) (.v 31)⟩,
  ⟨some 3, none, none, .objs [], .mv (.c (.sc (.int .i64 0)))⟩])) <|
  .ret

theorem il23_eq : cFn Try.prog pol 23 = some ⟨32, il23c, [(2, some (true, 7)), (3, none)]⟩ := by kernel_rfl

noncomputable def il24l0b : C :=
  .seq (.seq (.ops ([
  ⟨some 29, none, none, .objs [], .mv (.v 5)⟩,
  ⟨some 30, none, none, .objs [], .bin .lss false (.v 29) (.c (.sc (.int .i64 11)))⟩])) <|
  .cond (.v 30) (.nop) (.exit 0)) <|
  .seq (.block 1 (.ops ([
    ⟨some 33, none, none, .objs [], .mv (.v 4)⟩,
    ⟨some 34, none, none, .objs [], .mv (.v 0)⟩,
    ⟨some 35, none, none, .objs [], .mv (.v 5)⟩,
    ⟨some 36, none, none, .objs [], .iaS 1 (.v 34) (.v 35)⟩,
    ⟨some 37, none, none, .objs [], .ld false 1 (.v 36)⟩,
    ⟨some 38, none, none, .objs [], .cv .i64 (.v 37)⟩,
    ⟨some 39, none, none, .objs [], .bin .add false (.v 33) (.v 38)⟩,
    ⟨some 4, none, none, .objs [], .mv (.v 39)⟩]))) <|
  .ops ([
  ⟨some 31, none, none, .objs [], .mv (.v 5)⟩,
  ⟨some 32, none, none, .objs [], .bin .add false (.v 31) (.c (.sc (.int .i64 1)))⟩,
  ⟨some 5, none, none, .objs [], .mv (.v 32)⟩])
noncomputable def il24l0 : C := il24l0b
theorem il24l0_go {P : Program} {pol : Pol} {K : Oracle} {I : Inl} {n : Nat} {f : FuncId} {R : Xit → FEnv → Heap → Prop} {e : FEnv} {h : Heap} : wc P pol K I n f il24l0 R e h = wc P pol K I n f il24l0b R e h := (fun x => x) rfl

/-- isochron/isochronref18.Read -/
noncomputable def il24c : C :=
  .seq (.ops ([
  ⟨some 2, none, none, .objs [], .nw 7 (.agg [(.sc (.int .i64 0)), (.sc (.int .i64 0)), (.sc (.int .i64 0)), (.sc (.int .i64 0)), (.sc (.int .i64 0)), (.sc (.int .i64 0)), (.sc (.int .i64 0))])⟩,
  ⟨some 3, none, none, .objs [], .mv (.c (.sc (.bool false)))⟩])) <|
  .seq (.seq (.ops ([
  ⟨some 7, none, none, .objs [], .mv (.v 0)⟩,
  ⟨some 8, none, none, .objs [], .lenS (.v 7)⟩,
  ⟨some 9, none, none, .objs [], .bin .neq false (.v 8) (.c (.sc (.int .i64 12)))⟩,
  ⟨some 10, none, none, .objs [], .mv (.v 9)⟩,
  ⟨some 11, some (10, false), none, .objs [], .mv (.v 0)⟩,
  ⟨some 12, some (10, false), none, .objs [], .iaS 1 (.v 11) (.c (.sc (.int .i64 0)))⟩,
  ⟨some 13, some (10, false), none, .objs [], .ld false 1 (.v 12)⟩,
  ⟨some 14, some (10, false), none, .objs [], .bin .neq false (.v 13) (.c (.sc (.int .u8 83)))⟩,
  ⟨some 15, none, none, .objs [], .pk (.v 10) (.c (.sc (.bool true))) (.v 14)⟩,
  ⟨some 16, none, none, .objs [], .mv (.v 15)⟩,
  ⟨some 17, some (16, false), none, .objs [], .mv (.v 0)⟩,
  ⟨some 18, some (16, false), none, .objs [], .iaS 1 (.v 17) (.c (.sc (.int .i64 1)))⟩] ++ mkL [0, 2, 16, 18] ([
  ⟨some 19, some (16, false), none, .objs [], .ld false 1 (.v 18)⟩,
  ⟨some 20, some (16, false), none, .objs [], .bin .neq false (.v 19) (.c (.sc (.int .u8 84)))⟩,
  ⟨some 21, none, none, .objs [], .pk (.v 16) (.c (.sc (.bool true))) (.v 20)⟩,
  ⟨some 22, none, none, .objs [], .mv (.v 21)⟩,
  ⟨some 23, some (22, false), none, .objs [], .mv (.v 0)⟩,
  ⟨some 24, some (22, false), none, .objs [], .iaS 1 (.v 23) (.c (.sc (.int .i64 2)))⟩,
  ⟨some 25, some (22, false), none, .objs [], .ld false 1 (.v 24)⟩,
  ⟨some 26, some (22, false), none, .objs [], .bin .neq false (.v 25) (.c (.sc (.int .u8 1)))⟩,
  ⟨some 27, none, none, .objs [], .pk (.v 22) (.c (.sc (.bool true))) (.v 26)⟩]))) <|
  .cond (.v 27) (.seq (.ops ([
    ⟨some 28, none, none, .objs [], .bd [(.sc (.int .i64 0)), (.sc (.int .i64 0)), (.sc (.int .i64 0)), (.sc (.int .i64 0)), (.sc (.int .i64 0)), (.sc (.int .i64 0)), (.sc (.int .i64 0))] []⟩,
    ⟨none, none, none, .objs [], .st 7 (.v 2) (.v 28)⟩,
    ⟨some 3, none, none, .objs [], .mv (.c (.sc (.bool false)))⟩])) <|
    .ret) (.nop)) <|
  .seq (.ops ([
  ⟨some 4, none, none, .objs [], .mv (.c (.sc (.int .i64 0)))⟩])) <|
  .seq (.seq (.ops ([
  ⟨some 5, none, none, .objs [], .mv (.c (.sc (.int .i64 0)))⟩])) <| mkC [0, 2, 4, 5] <|
  .block 0 (.loop (some [0, 2, 4, 5]) il24l0)) <|
  .seq (.ops ([
  ⟨some 6, none, none, .objs [], .nw 7 (.agg [(.sc (.int .i64 0)), (.sc (.int .i64 0)), (.sc (.int .i64 0)), (.sc (.int .i64 0)), (.sc (.int .i64 0)), (.sc (.int .i64 0)), (.sc (.int .i64 0))])⟩])) <|
  .seq (.opsD [] ([
  ⟨some 40, none, none, .objs [], .mv (.v 0)⟩,
  ⟨some 41, none, none, .objs [], .iaS 1 (.v 40) (.c (.sc (.int .i64 3)))⟩,
  ⟨some 42, none, none, .objs [(.v 41)], .ld false 1 (.v 41)⟩,
  ⟨some 43, none, none, .objs [], .cv .i64 (.v 42)⟩,
  ⟨some 44, none, none, .objs [], .bin .quo false (.v 43) (.c (.sc (.int .i64 16)))⟩,
  ⟨some 45, none, none, .objs [], .mv (.v 0)⟩,
  ⟨some 46, none, none, .objs [], .iaS 1 (.v 45) (.c (.sc (.int .i64 3)))⟩,
  ⟨some 47, none, none, .objs [(.v 46)], .ld false 1 (.v 46)⟩,
  ⟨some 48, none, none, .objs [], .cv .i64 (.v 47)⟩,
  ⟨some 49, none, none, .objs [], .bin .rem false (.v 48) (.c (.sc (.int .i64 16)))⟩,
  ⟨some 50, none, none, .objs [], .bd [(.sc (.int .i64 0)), (.sc (.int .i64 0))] [(0, 1, (.v 44)), (1, 1, (.v 49))]⟩,
  ⟨some 51, none, none, .objs [], .fa 0 (.v 6)⟩,
  ⟨some 52, none, none, .objs [], .fa 0 (.v 51)⟩] ++ mkL [0, 2, 4, 6, 50, 52] ([
  ⟨none, none, none, .objs [(.v 52)], .st 2 (.v 52) (.v 50)⟩]))) <|
  .seq (.opsD [] ([
  ⟨some 53, none, none, .objs [], .mv (.v 0)⟩,
  ⟨some 54, none, none, .objs [], .iaS 1 (.v 53) (.c (.sc (.int .i64 4)))⟩,
  ⟨some 55, none, none, .objs [(.v 54)], .ld false 1 (.v 54)⟩,
  ⟨some 56, none, none, .objs [], .cv .i64 (.v 55)⟩,
  ⟨some 57, none, none, .objs [], .bin .mul false (.v 56) (.c (.sc (.int .i64 16777216)))⟩,
  ⟨some 58, none, none, .objs [], .mv (.v 0)⟩,
  ⟨some 59, none, none, .objs [], .iaS 1 (.v 58) (.c (.sc (.int .i64 5)))⟩,
  ⟨some 60, none, none, .objs [(.v 59)], .ld false 1 (.v 59)⟩,
  ⟨some 61, none, none, .objs [], .cv .i64 (.v 60)⟩,
  ⟨some 62, none, none, .objs [], .bin .mul false (.v 61) (.c (.sc (.int .i64 65536)))⟩,
  ⟨some 63, none, none, .objs [], .bin .add false (.v 57) (.v 62)⟩,
  ⟨some 64, none, none, .objs [], .mv (.v 0)⟩,
  ⟨some 65, none, none, .objs [], .iaS 1 (.v 64) (.c (.sc (.int .i64 6)))⟩] ++ mkL [0, 2, 4, 6, 63, 65] ([
  ⟨some 66, none, none, .objs [(.v 65)], .ld false 1 (.v 65)⟩,
  ⟨some 67, none, none, .objs [], .cv .i64 (.v 66)⟩,
  ⟨some 68, none, none, .objs [], .bin .mul false (.v 67) (.c (.sc (.int .i64 256)))⟩,
  ⟨some 69, none, none, .objs [], .bin .add false (.v 63) (.v 68)⟩,
  ⟨some 70, none, none, .objs [], .mv (.v 0)⟩,
  ⟨some 71, none, none, .objs [], .iaS 1 (.v 70) (.c (.sc (.int .i64 7)))⟩,
  ⟨some 72, none, none, .objs [(.v 71)], .ld false 1 (.v 71)⟩,
  ⟨some 73, none, none, .objs [], .cv .i64 (.v 72)⟩,
  ⟨some 74, none, none, .objs [], .bin .add false (.v 69) (.v 73)⟩,
  ⟨some 75, none, none, .objs [], .fa 0 (.v 6)⟩,
  ⟨some 76, none, none, .objs [], .fa 2 (.v 75)⟩,
  ⟨none, none, none, .objs [(.v 76)], .st 1 (.v 76) (.v 74)⟩]))) <|
  .seq (.opsD [] ([
  ⟨some 77, none, none, .objs [], .mv (.v 0)⟩,
  ⟨some 78, none, none, .objs [], .iaS 1 (.v 77) (.c (.sc (.int .i64 8)))⟩] ++ mkL [0, 2, 4, 6, 78] ([
  ⟨some 79, none, none, .objs [(.v 78)], .ld false 1 (.v 78)⟩,
  ⟨some 80, none, none, .objs [], .cv .i64 (.v 79)⟩,
  ⟨some 81, none, none, .objs [], .bin .quo false (.v 80) (.c (.sc (.int .i64 16)))⟩,
  ⟨some 82, none, none, .objs [], .mv (.v 0)⟩,
  ⟨some 83, none, none, .objs [], .iaS 1 (.v 82) (.c (.sc (.int .i64 8)))⟩,
  ⟨some 84, none, none, .objs [(.v 83)], .ld false 1 (.v 83)⟩,
  ⟨some 85, none, none, .objs [], .cv .i64 (.v 84)⟩,
  ⟨some 86, none, none, .objs [], .bin .rem false (.v 85) (.c (.sc (.int .i64 16)))⟩,
  ⟨some 87, none, none, .objs [], .bd [(.sc (.int .i64 0)), (.sc (.int .i64 0))] [(0, 1, (.v 81)), (1, 1, (.v 86))]⟩,
  ⟨some 88, none, none, .objs [], .fa 0 (.v 6)⟩,
  ⟨some 89, none, none, .objs [], .fa 3 (.v 88)⟩,
  ⟨none, none, none, .objs [(.v 89)], .st 2 (.v 89) (.v 87)⟩]))) <|
  .seq (.ops ([
  ⟨some 90, none, none, .objs [], .mv (.v 0)⟩,
  ⟨some 91, none, none, .objs [], .iaS 1 (.v 90) (.c (.sc (.int .i64 9)))⟩] ++ mkL [0, 2, 4, 6, 91] ([
  ⟨some 92, none, none, .objs [], .ld false 1 (.v 91)⟩,
  ⟨some 93, none, none, .objs [], .cv .i64 (.v 92)⟩,
  ⟨some 94, none, none, .objs [], .fa 0 (.v 6)⟩,
  ⟨some 95, none, none, .objs [], .fa 5 (.v 94)⟩,
  ⟨none, none, none, .objs [], .st 1 (.v 95) (.v 93)⟩]))) <|
  .seq (.ops ([
  ⟨some 96, none, none, .objs [], .mv (.v 0)⟩,
  ⟨some 97, none, none, .objs [], .iaS 1 (.v 96) (.c (.sc (.int .i64 10)))⟩,
  ⟨some 98, none, none, .objs [], .ld false 1 (.v 97)⟩,
  ⟨some 99, none, none, .objs [], .cv .i64 (.v 98)⟩,
  ⟨some 100, none, none, .objs [], .fa 6 (.v 6)⟩,
  ⟨none, none, none, .objs [], .st 1 (.v 100) (.v 99)⟩])) <|
  .seq (.seq (.ops ([
  ⟨some 101, none, none, .objs [], .ld true 7 (.v 6)⟩,
  ⟨some 102, none, none, .objs [], .call (.c (.fn (.func 13) [] [])) [(.v 101)]⟩,
  ⟨some 103, none, none, .objs [], .nt (.v 102)⟩] ++ mkL [0, 2, 4, 6, 103] ([
  ⟨some 104, none, none, .objs [], .mv (.v 103)⟩,
  ⟨some 105, some (104, false), none, .objs [], .mv (.v 0)⟩,
  ⟨some 106, some (104, false), none, .objs [], .iaS 1 (.v 105) (.c (.sc (.int .i64 11)))⟩,
  ⟨some 107, some (104, false), none, .objs [], .ld false 1 (.v 106)⟩,
  ⟨some 108, some (104, false), none, .objs [], .cv .i64 (.v 107)⟩,
  ⟨some 109, some (104, false), none, .objs [], .mv (.v 4)⟩,
  ⟨some 110, some (104, false), none, .objs [], .bin .rem false (.v 109) (.c (.sc (.int .i64 256)))⟩,
  ⟨some 111, some (104, false), none, .objs [], .bin .neq false (.v 108) (.v 110)⟩,
  ⟨some 112, none, none, .objs [], .pk (.v 104) (.c (.sc (.bool true))) (.v 111)⟩]))) <|
  .cond (.v 112) (.seq (.ops ([
    ⟨some 113, none, none, .objs [], .bd [(.sc (.int .i64 0)), (.sc (.int .i64 0)), (.sc (.int .i64 0)), (.sc (.int .i64 0)), (.sc (.int .i64 0)), (.sc (.int .i64 0)), (.sc (.int .i64 0))] []⟩,
    ⟨none, none, none, .objs [], .st 7 (.v 2) (.v 113)⟩,
    ⟨some 3, none, none, .objs [], .mv (.c (.sc (.bool false)))⟩])) <|
    .ret) (.nop)) <|
  .seq (.ops ([
  ⟨some 114, none, none, .objs [], .ld true 7 (.v 6)⟩,
  ⟨none, none, none, .objs [], .st 7 (.v 2) (.v 114)⟩] ++ mkL [2] ([
  ⟨some 3, none, none, .objs [], .mv (.c (.sc (.bool true)))⟩]))) <|
  .ret

theorem il24_eq : cFn Try.prog pol 24 = some ⟨115, il24c, [(2, some (true, 7)), (3, none)]⟩ := by kernel_rfl

/-- isochron/isochronlaw18.made -/
noncomputable def il25c : C :=
  .seq (.ops ([
  ⟨some 1, none, none, .objs [], .bx false (.v 0)⟩,
  ⟨some 2, none, none, .objs [], .nw 6 (.agg [(.sc (.int .i64 0)), (.sc (.int .i64 0)), (.sc (.int .i64 0)), (.sc (.int .i64 0)), (.sc (.int .i64 0)), (.sc (.int .i64 0))])⟩])) <|
  .seq (.ops ([
  ⟨some 3, none, none, .objs [], .nw 1 (.sc .nilFunc)⟩,
  ⟨none, none, none, .objs [], .st 1 (.v 3) (.c (.fn (.func 38) [] []))⟩])) <|
  .seq (.ops ([
  ⟨some 5, none, some [(.v 3)], .objs [], .fn 39 [] [(.v 3)]⟩,
  ⟨some 4, none, none, .objs [], .mv (.v 5)⟩])) <|
  .seq (.opsD [(3, 4), (3, 6), (3, 10), (7, 10), (3, 12), (7, 12), (11, 12), (3, 14), (7, 14), (11, 14)] ([
  ⟨some 6, none, none, .objs [], .mv (.v 4)⟩,
  ⟨some 7, none, none, .objs [], .fa 0 (.v 1)⟩,
  ⟨some 8, none, none, .objs [(.v 7)], .ld true 2 (.v 7)⟩,
  ⟨some 9, none, none, .cal (.v 6) [(.v 8)], .call (.v 6) [(.v 8)]⟩,
  ⟨some 10, none, none, .objs [(.v 3)], .ld false 1 (.v 3)⟩,
  ⟨some 11, none, none, .objs [], .fa 2 (.v 1)⟩,
  ⟨some 12, none, none, .objs [(.v 11)], .ld false 1 (.v 11)⟩,
  ⟨some 13, none, none, .cal (.v 10) [(.v 12), (.c (.sc (.int .i64 1000000)))], .call (.v 10) [(.v 12), (.c (.sc (.int .i64 1000000)))]⟩] ++ mkL [1, 2, 3, 4, 9, 13] ([
  ⟨some 14, none, none, .objs [], .mv (.v 4)⟩,
  ⟨some 15, none, none, .objs [], .fa 3 (.v 1)⟩,
  ⟨some 16, none, none, .objs [(.v 15)], .ld true 2 (.v 15)⟩,
  ⟨some 17, none, none, .cal (.v 14) [(.v 16)], .call (.v 14) [(.v 16)]⟩,
  ⟨some 18, none, none, .objs [(.v 3)], .ld false 1 (.v 3)⟩,
  ⟨some 19, none, none, .objs [], .fa 5 (.v 1)⟩,
  ⟨some 20, none, none, .objs [(.v 19)], .ld false 1 (.v 19)⟩,
  ⟨some 21, none, none, .cal (.v 18) [(.v 20), (.c (.sc (.int .i64 47)))], .call (.v 18) [(.v 20), (.c (.sc (.int .i64 47)))]⟩,
  ⟨some 22, none, none, .objs [], .bd [(.sc (.int .i64 0)), (.sc (.int .i64 0)), (.sc (.int .i64 0)), (.sc (.int .i64 0)), (.sc (.int .i64 0)), (.sc (.int .i64 0))] [(0, 2, (.v 9)), (2, 1, (.v 13)), (3, 2, (.v 17)), (5, 1, (.v 21))]⟩,
  ⟨none, none, none, .objs [(.v 2)], .st 6 (.v 2) (.v 22)⟩]))) <|
  .ret

theorem il25_eq : cFn Try.prog pol 25 = some ⟨23, il25c, [(2, some (true, 6))]⟩ := by kernel_rfl

/-- slices.Clone[[]byte,byte] -/
noncomputable def il26c : C :=
  .seq (.ops ([
  ⟨some 2, none, none, .objs [], .mv (.c (.sc (.slice none 0 0)))⟩])) <|
  .seq (.seq (.ops ([
  ⟨some 3, none, none, .objs [], .mv (.v 0)⟩,
  ⟨some 4, none, none, .objs [], .raw (opOf Try.prog 26 1 1)⟩])) <|
  .cond (.v 4) (.seq (.ops ([
    ⟨some 2, none, none, .objs [], .mv (.c (.sc (.slice none 0 0)))⟩])) <|
    .ret) (.nop)) <|
  .seq (.ops ([
  ⟨some 5, none, none, .objs [], .bs false 1 (.sc (.int .u8 0)) 0 []⟩,
  ⟨some 6, none, none, .objs [], .mv (.v 0)⟩,
  ⟨some 7, none, none, .objs [], .app 1 1 (.v 5) (.v 6)⟩,
  ⟨some 2, none, none, .objs [], .mv (.v 7)⟩])) <|
  .ret

theorem il26_eq : cFn Try.prog pol 26 = some ⟨8, il26c, [(2, none)]⟩ := by kernel_rfl
theorem raw26_1_1 {e : FEnv} {h : Heap} : iStep Try.prog pol 26 e h (.raw (opOf Try.prog 26 1 1)) = vOf h (binE Try.prog false 41 (.tmp 3) (.const (.slice none 0 0)) (Src.get e (.v 3)) (Src.get e (.c (.sc (.slice none 0 0))))) := raw_eql (x := (.tmp 3)) (y := (.const (.slice none 0 0))) (s := 41) (by kernel_rfl)

noncomputable def il27l0b : C :=
  .seq (.ops ([
  ⟨some 14, none, none, .objs [], .bin .lss false (.v 13) (.v 12)⟩])) <|
  .seq (.cond (.v 14) (.nop) (.exit 0)) <|
  .seq (.block 1 (.seq (.ops ([
    ⟨some 15, none, none, .objs [], .mv (.v 13)⟩,
    ⟨some 16, none, none, .objs [], .iaS 6 (.v 11) (.v 13)⟩,
    ⟨some 17, none, none, .objs [], .ld true 6 (.v 16)⟩,
    ⟨some 6, none, none, .objs [], .nw 6 (.agg [(.sc (.int .i64 0)), (.sc (.int .i64 0)), (.sc (.int .i64 0)), (.sc (.int .i64 0)), (.sc (.int .i64 0)), (.sc (.int .i64 0))])⟩,
    ⟨some 5, none, none, .objs [], .mv (.v 15)⟩,
    ⟨none, none, none, .objs [], .st 6 (.v 6) (.v 17)⟩])) <|
    .seq (.seq (.ops ([
    ⟨some 18, none, none, .objs [], .ld true 6 (.v 6)⟩,
    ⟨some 19, none, none, .objs [], .call (.c (.fn (.func 14) [] [])) [(.v 18)]⟩,
    ⟨some 7, none, none, .objs [], .mv (.v 19)⟩])) <|
    .seq (.ops ([
    ⟨some 20, none, none, .objs [], .mv (.v 7)⟩,
    ⟨some 21, none, none, .objs [], .bin .neq false (.v 20) (.c (.sc (.int .i64 0)))⟩])) <|
    .cond (.v 21) (.seq (.ops ([
      ⟨some 22, none, none, .objs [], .mv (.v 7)⟩,
      ⟨some 2, none, none, .objs [], .mv (.c (.sc (.int .i64 0)))⟩] ++ mkL [2, 22] ([
      ⟨some 3, none, none, .objs [], .mv (.v 22)⟩]))) <|
      .ret) (.nop)) <|
    .seq (.opsD [] ([
    ⟨some 23, none, none, .objs [(.v 6)], .ld true 6 (.v 6)⟩,
    ⟨some 24, none, none, .objs [], .mv (.v 0)⟩] ++ mkL [0, 4, 5, 11, 12, 13, 23, 24] ([
    ⟨some 25, none, none, .objs [], .mv (.v 4)⟩,
    ⟨some 26, none, none, .objs [], .iaS 6 (.v 24) (.v 25)⟩,
    ⟨some 27, none, none, .objs [(.v 26)], .ld true 6 (.v 26)⟩,
    ⟨some 28, none, none, .cal (.c (.fn (.func 17) [] [])) [(.v 23), (.v 27)], .call (.c (.fn (.func 17) [] [])) [(.v 23), (.v 27)]⟩,
    ⟨some 29, none, none, .objs [], .bin .lss false (.v 28) (.c (.sc (.int .i64 0)))⟩]))) <|
    .cond (.v 29) (.ops ([
      ⟨some 30, none, none, .objs [], .mv (.v 5)⟩,
      ⟨some 4, none, none, .objs [], .mv (.v 30)⟩])) (.nop))) <|
  .ops ([
  ⟨some 31, none, none, .objs [], .bin .add false (.v 13) (.c (.sc (.int .i64 1)))⟩,
  ⟨some 13, none, none, .objs [], .mv (.v 31)⟩])
noncomputable def il27l0 : C := il27l0b
theorem il27l0_go {P : Program} {pol : Pol} {K : Oracle} {I : Inl} {n : Nat} {f : FuncId} {R : Xit → FEnv → Heap → Prop} {e : FEnv} {h : Heap} : wc P pol K I n f il27l0 R e h = wc P pol K I n f il27l0b R e h := (fun x => x) rfl

/-- isochron/vector.Best -/
noncomputable def il27c : C :=
  .seq (.ops ([
  ⟨some 2, none, none, .objs [], .mv (.c (.sc (.int .i64 0)))⟩,
  ⟨some 3, none, none, .objs [], .mv (.c (.sc (.int .i64 0)))⟩])) <|
  .seq (.seq (.ops ([
  ⟨some 8, none, none, .objs [], .mv (.v 0)⟩,
  ⟨some 9, none, none, .objs [], .lenS (.v 8)⟩,
  ⟨some 10, none, none, .objs [], .bin .eql false (.v 9) (.c (.sc (.int .i64 0)))⟩])) <|
  .cond (.v 10) (.seq (.ops ([
    ⟨some 2, none, none, .objs [], .mv (.c (.sc (.int .i64 0)))⟩,
    ⟨some 3, none, none, .objs [], .mv (.c (.sc (.int .i64 4)))⟩])) <|
    .ret) (.nop)) <|
  .seq (.ops ([
  ⟨some 4, none, none, .objs [], .mv (.c (.sc (.int .i64 0)))⟩])) <|
  .seq (.seq (.ops ([
  ⟨some 11, none, none, .objs [], .mv (.v 0)⟩,
  ⟨some 12, none, none, .objs [], .lenS (.v 11)⟩,
  ⟨some 13, none, none, .objs [], .mv (.c (.sc (.int .i64 0)))⟩])) <|
  .block 0 (.loop (some [0, 4, 11, 12, 13]) il27l0)) <|
  .seq (.ops ([
  ⟨some 32, none, none, .objs [], .mv (.v 4)⟩,
  ⟨some 2, none, none, .objs [], .mv (.v 32)⟩,
  ⟨some 3, none, none, .objs [], .mv (.c (.sc (.int .i64 0)))⟩])) <|
  .ret

theorem il27_eq : cFn Try.prog pol 27 = some ⟨33, il27c, [(2, none), (3, none)]⟩ := by kernel_rfl

noncomputable def il28l0b : C :=
  .seq (.seq (.ops ([
  ⟨some 5, none, none, .objs [], .mv (.v 4)⟩,
  ⟨some 6, none, none, .objs [], .mv (.v 0)⟩,
  ⟨some 7, none, none, .objs [], .lenS (.v 6)⟩,
  ⟨some 8, none, none, .objs [], .bin .lss false (.v 5) (.v 7)⟩])) <|
  .cond (.v 8) (.nop) (.exit 0)) <|
  .seq (.block 1 (.seq (.opsD [] ([
    ⟨some 11, none, none, .objs [], .mv (.v 3)⟩,
    ⟨some 12, none, none, .objs [], .bin .lss false (.v 11) (.c (.sc (.int .i64 0)))⟩,
    ⟨some 13, none, none, .objs [], .mv (.v 12)⟩,
    ⟨some 14, some (13, false), none, .objs [], .mv (.v 0)⟩,
    ⟨some 15, some (13, false), none, .objs [], .mv (.v 4)⟩,
    ⟨some 16, some (13, false), none, .objs [], .iaS 6 (.v 14) (.v 15)⟩,
    ⟨some 17, some (13, false), none, .objs [(.v 16)], .ld true 6 (.v 16)⟩,
    ⟨some 18, some (13, false), none, .objs [], .mv (.v 0)⟩,
    ⟨some 19, some (13, false), none, .objs [], .mv (.v 3)⟩,
    ⟨some 20, some (13, false), none, .objs [], .iaS 6 (.v 18) (.v 19)⟩] ++ mkL [0, 3, 4, 13, 17, 20] ([
    ⟨some 21, some (13, false), none, .objs [(.v 20)], .ld true 6 (.v 20)⟩,
    ⟨some 22, some (13, false), none, .cal (.c (.fn (.func 16) [] [])) [(.v 17), (.v 21)], .call (.c (.fn (.func 16) [] [])) [(.v 17), (.v 21)]⟩,
    ⟨some 23, none, none, .objs [], .pk (.v 13) (.c (.sc (.bool true))) (.v 22)⟩]))) <|
    .cond (.v 23) (.ops ([
      ⟨some 24, none, none, .objs [], .mv (.v 4)⟩,
      ⟨some 3, none, none, .objs [], .mv (.v 24)⟩])) (.nop))) <|
  .ops ([
  ⟨some 9, none, none, .objs [], .mv (.v 4)⟩,
  ⟨some 10, none, none, .objs [], .bin .add false (.v 9) (.c (.sc (.int .i64 1)))⟩,
  ⟨some 4, none, none, .objs [], .mv (.v 10)⟩])
noncomputable def il28l0 : C := il28l0b
theorem il28l0_go {P : Program} {pol : Pol} {K : Oracle} {I : Inl} {n : Nat} {f : FuncId} {R : Xit → FEnv → Heap → Prop} {e : FEnv} {h : Heap} : wc P pol K I n f il28l0 R e h = wc P pol K I n f il28l0b R e h := (fun x => x) rfl

/-- isochron/isochronref18.Best -/
noncomputable def il28c : C :=
  .seq (.ops ([
  ⟨some 2, none, none, .objs [], .mv (.c (.sc (.int .i64 0)))⟩])) <|
  .seq (.ops ([
  ⟨some 3, none, none, .objs [], .mv (.c (.sc (.int .i64 (-1))))⟩])) <|
  .seq (.seq (.ops ([
  ⟨some 4, none, none, .objs [], .mv (.c (.sc (.int .i64 0)))⟩])) <|
  .block 0 (.loop (some [0, 3, 4]) il28l0)) <|
  .seq (.ops ([
  ⟨some 25, none, none, .objs [], .mv (.v 3)⟩,
  ⟨some 2, none, none, .objs [], .mv (.v 25)⟩])) <|
  .ret

theorem il28_eq : cFn Try.prog pol 28 = some ⟨26, il28c, [(2, none)]⟩ := by kernel_rfl

/-- isochron/isochronlaw18.some -/
noncomputable def il29c : C :=
  .seq (.ops ([
  ⟨some 0, none, none, .objs [], .nw 6 (.agg [(.sc (.int .i64 0)), (.sc (.int .i64 0)), (.sc (.int .i64 0)), (.sc (.int .i64 0)), (.sc (.int .i64 0)), (.sc (.int .i64 0))])⟩])) <|
  .seq (.ops ([
  ⟨some 1, none, none, .objs [], .bd [(.sc (.int .i64 0)), (.sc (.int .i64 0))] [(0, 1, (.c (.sc (.int .i64 1)))), (1, 1, (.c (.sc (.int .i64 2))))]⟩,
  ⟨some 2, none, none, .objs [], .bd [(.sc (.int .i64 0)), (.sc (.int .i64 0))] [(0, 1, (.c (.sc (.int .i64 3)))), (1, 1, (.c (.sc (.int .i64 4))))]⟩,
  ⟨some 3, none, none, .objs [], .bd [(.sc (.int .i64 0)), (.sc (.int .i64 0)), (.sc (.int .i64 0)), (.sc (.int .i64 0)), (.sc (.int .i64 0)), (.sc (.int .i64 0))] [(0, 2, (.v 1)), (2, 1, (.c (.sc (.int .i64 10)))), (3, 2, (.v 2)), (5, 1, (.c (.sc (.int .i64 5))))]⟩,
  ⟨none, none, none, .objs [], .st 6 (.v 0) (.v 3)⟩])) <|
  .ret

theorem il29_eq : cFn Try.prog pol 29 = some ⟨4, il29c, [(0, some (true, 6))]⟩ := by kernel_rfl

/-- isochron/vector.named -/
noncomputable def il30c : C :=
  .seq (.ops ([
  ⟨some 1, none, none, .objs [], .bx false (.v 0)⟩,
  ⟨some 2, none, none, .objs [], .mv (.c (.sc (.bool false)))⟩])) <|
  .seq (.ops ([
  ⟨some 3, none, none, .objs [], .fa 0 (.v 1)⟩,
  ⟨some 4, none, none, .objs [], .ld false 1 (.v 3)⟩,
  ⟨some 5, none, none, .objs [], .call (.c (.fn (.func 31) [] [])) [(.v 4), (.c (.sc (.int .i64 0))), (.c (.sc (.int .i64 15)))]⟩,
  ⟨some 6, none, none, .objs [], .mv (.v 5)⟩,
  ⟨some 7, some (6, true), none, .objs [], .fa 1 (.v 1)⟩,
  ⟨some 8, some (6, true), none, .objs [], .ld false 1 (.v 7)⟩,
  ⟨some 9, some (6, true), none, .objs [], .call (.c (.fn (.func 31) [] [])) [(.v 8), (.c (.sc (.int .i64 0))), (.c (.sc (.int .i64 11)))]⟩,
  ⟨some 10, none, none, .objs [], .pk (.v 6) (.v 9) (.c (.sc (.bool false)))⟩,
  ⟨some 2, none, none, .objs [], .mv (.v 10)⟩])) <|
  .ret

theorem il30_eq : cFn Try.prog pol 30 = some ⟨11, il30c, [(2, none)]⟩ := by kernel_rfl

/-- isochron/vector.between[int] -/
noncomputable def il31c : C :=
  .seq (.ops ([
  ⟨some 6, none, none, .objs [], .mv (.c (.sc (.bool false)))⟩])) <|
  .seq (.ops ([
  ⟨some 7, none, none, .objs [], .mv (.v 0)⟩,
  ⟨some 8, none, none, .objs [], .mv (.v 1)⟩,
  ⟨some 9, none, none, .objs [], .bin .geq false (.v 7) (.v 8)⟩,
  ⟨some 10, none, none, .objs [], .mv (.v 9)⟩,
  ⟨some 11, some (10, true), none, .objs [], .mv (.v 0)⟩,
  ⟨some 12, some (10, true), none, .objs [], .mv (.v 2)⟩,
  ⟨some 13, some (10, true), none, .objs [], .bin .leq false (.v 11) (.v 12)⟩,
  ⟨some 14, none, none, .objs [], .pk (.v 10) (.v 13) (.c (.sc (.bool false)))⟩,
  ⟨some 6, none, none, .objs [], .mv (.v 14)⟩])) <|
  .ret

theorem il31_eq : cFn Try.prog pol 31 = some ⟨15, il31c, [(6, none)]⟩ := by kernel_rfl

/-- isochron/vector.numbered -/
noncomputable def il32c : C :=
  .seq (.ops ([
  ⟨some 2, none, none, .objs [], .mv (.c (.sc (.bool false)))⟩])) <|
  .seq (.ops ([
  ⟨some 3, none, none, .objs [], .mv (.v 0)⟩,
  ⟨some 4, none, none, .objs [], .call (.c (.fn (.func 31) [] [])) [(.v 3), (.c (.sc (.int .i64 0))), (.c (.sc (.int .i64 47)))]⟩,
  ⟨some 2, none, none, .objs [], .mv (.v 4)⟩])) <|
  .ret

theorem il32_eq : cFn Try.prog pol 32 = some ⟨5, il32c, [(2, none)]⟩ := by kernel_rfl

/-- isochron/vector.numbers -/
noncomputable def il33c : C :=
  .seq (.ops ([
  ⟨some 1, none, none, .objs [], .bx false (.v 0)⟩,
  ⟨some 2, none, none, .objs [], .nw 6 (.agg [(.sc (.int .i64 0)), (.sc (.int .i64 0)), (.sc (.int .i64 0)), (.sc (.int .i64 0)), (.sc (.int .i64 0)), (.sc (.int .i64 0))])⟩])) <|
  .seq (.ops ([
  ⟨some 3, none, none, .objs [], .fa 0 (.v 1)⟩,
  ⟨some 4, none, none, .objs [], .fa 0 (.v 3)⟩,
  ⟨some 5, none, none, .objs [], .ld false 1 (.v 4)⟩,
  ⟨some 6, none, none, .objs [], .fa 0 (.v 1)⟩,
  ⟨some 7, none, none, .objs [], .fa 1 (.v 6)⟩,
  ⟨some 8, none, none, .objs [], .ld false 1 (.v 7)⟩,
  ⟨some 9, none, none, .objs [], .fa 2 (.v 1)⟩,
  ⟨some 10, none, none, .objs [], .ld false 1 (.v 9)⟩,
  ⟨some 11, none, none, .objs [], .fa 3 (.v 1)⟩,
  ⟨some 12, none, none, .objs [], .fa 0 (.v 11)⟩,
  ⟨some 13, none, none, .objs [], .ld false 1 (.v 12)⟩,
  ⟨some 14, none, none, .objs [], .fa 3 (.v 1)⟩] ++ mkL [1, 2, 5, 8, 10, 13, 14] ([
  ⟨some 15, none, none, .objs [], .fa 1 (.v 14)⟩,
  ⟨some 16, none, none, .objs [], .ld false 1 (.v 15)⟩,
  ⟨some 17, none, none, .objs [], .fa 5 (.v 1)⟩,
  ⟨some 18, none, none, .objs [], .ld false 1 (.v 17)⟩,
  ⟨some 19, none, none, .objs [], .bd [(.sc (.int .i64 0)), (.sc (.int .i64 0)), (.sc (.int .i64 0)), (.sc (.int .i64 0)), (.sc (.int .i64 0)), (.sc (.int .i64 0))] [(0, 1, (.v 5)), (1, 1, (.v 8)), (2, 1, (.v 10)), (3, 1, (.v 13)), (4, 1, (.v 16)), (5, 1, (.v 18))]⟩,
  ⟨none, none, none, .objs [], .st 6 (.v 2) (.v 19)⟩]))) <|
  .ret

theorem il33_eq : cFn Try.prog pol 33 = some ⟨20, il33c, [(2, some (true, 6))]⟩ := by kernel_rfl

/-- cmp.Compare[int] -/
noncomputable def il34c : C :=
  .seq (.ops ([
  ⟨some 4, none, none, .objs [], .mv (.c (.sc (.int .i64 0)))⟩])) <|
  .seq (.ops ([
  ⟨some 7, none, none, .objs [], .mv (.v 0)⟩,
  ⟨some 8, none, none, .objs [], .call (.c (.fn (.func 40) [] [])) [(.v 7)]⟩,
  ⟨some 5, none, none, .objs [], .mv (.v 8)⟩])) <|
  .seq (.ops ([
  ⟨some 9, none, none, .objs [], .mv (.v 1)⟩,
  ⟨some 10, none, none, .objs [], .call (.c (.fn (.func 40) [] [])) [(.v 9)]⟩,
  ⟨some 6, none, none, .objs [], .mv (.v 10)⟩])) <|
  .seq (.seq (.ops ([
  ⟨some 11, none, none, .objs [], .mv (.v 5)⟩])) <|
  .cond (.v 11) (.seq (.seq (.ops ([
    ⟨some 12, none, none, .objs [], .mv (.v 6)⟩])) <|
    .cond (.v 12) (.seq (.ops ([
      ⟨some 4, none, none, .objs [], .mv (.c (.sc (.int .i64 0)))⟩])) <|
      .ret) (.nop)) <|
    .seq (.ops ([
    ⟨some 4, none, none, .objs [], .mv (.c (.sc (.int .i64 (-1))))⟩])) <|
    .ret) (.nop)) <|
  .seq (.seq (.ops ([
  ⟨some 13, none, none, .objs [], .mv (.v 6)⟩])) <|
  .cond (.v 13) (.seq (.ops ([
    ⟨some 4, none, none, .objs [], .mv (.c (.sc (.int .i64 1)))⟩])) <|
    .ret) (.nop)) <|
  .seq (.seq (.ops ([
  ⟨some 14, none, none, .objs [], .mv (.v 0)⟩] ++ mkL [0, 1, 14] ([
  ⟨some 15, none, none, .objs [], .mv (.v 1)⟩,
  ⟨some 16, none, none, .objs [], .bin .lss false (.v 14) (.v 15)⟩]))) <|
  .cond (.v 16) (.seq (.ops ([
    ⟨some 4, none, none, .objs [], .mv (.c (.sc (.int .i64 (-1))))⟩])) <|
    .ret) (.nop)) <|
  .seq (.seq (.ops ([
  ⟨some 17, none, none, .objs [], .mv (.v 0)⟩,
  ⟨some 18, none, none, .objs [], .mv (.v 1)⟩,
  ⟨some 19, none, none, .objs [], .bin .gtr false (.v 17) (.v 18)⟩])) <|
  .cond (.v 19) (.seq (.ops ([
    ⟨some 4, none, none, .objs [], .mv (.c (.sc (.int .i64 1)))⟩])) <|
    .ret) (.nop)) <|
  .seq (.ops ([
  ⟨some 4, none, none, .objs [], .mv (.c (.sc (.int .i64 0)))⟩])) <|
  .ret

theorem il34_eq : cFn Try.prog pol 34 = some ⟨20, il34c, [(4, none)]⟩ := by kernel_rfl

noncomputable def il35l0b : C :=
  .seq (.ops ([
  ⟨some 10, none, none, .objs [], .bin .lss false (.v 9) (.v 8)⟩])) <|
  .seq (.cond (.v 10) (.nop) (.exit 0)) <|
  .seq (.block 1 (.seq (.ops ([
    ⟨some 11, none, none, .objs [], .iaS 1 (.v 7) (.v 9)⟩,
    ⟨some 12, none, none, .objs [], .ld false 1 (.v 11)⟩,
    ⟨some 6, none, none, .objs [], .mv (.v 12)⟩])) <|
    .ops ([
    ⟨some 13, none, none, .objs [], .mv (.v 0)⟩,
    ⟨some 14, none, none, .objs [], .mv (.v 6)⟩,
    ⟨some 15, none, none, .objs [], .cv .u8 (.v 14)⟩,
    ⟨some 16, none, none, .objs [], .bs false 1 (.sc (.int .u8 0)) 1 [(0, (.v 15))]⟩,
    ⟨some 17, none, none, .objs [], .app 1 1 (.v 13) (.v 16)⟩,
    ⟨some 0, none, none, .objs [], .mv (.v 17)⟩]))) <|
  .ops ([
  ⟨some 18, none, none, .objs [], .bin .add false (.v 9) (.c (.sc (.int .i64 1)))⟩,
  ⟨some 9, none, none, .objs [], .mv (.v 18)⟩])
noncomputable def il35l0 : C := il35l0b
theorem il35l0_go {P : Program} {pol : Pol} {K : Oracle} {I : Inl} {n : Nat} {f : FuncId} {R : Xit → FEnv → Heap → Prop} {e : FEnv} {h : Heap} : wc P pol K I n f il35l0 R e h = wc P pol K I n f il35l0b R e h := (fun x => x) rfl

/-- isochron/vector.put -/
noncomputable def il35c : C :=
  .seq (.ops ([
  ⟨some 4, none, none, .objs [], .mv (.c (.sc (.slice none 0 0)))⟩])) <|
  .seq (.seq (.ops ([
  ⟨some 7, none, none, .objs [], .mv (.v 1)⟩,
  ⟨some 8, none, none, .objs [], .lenS (.v 7)⟩,
  ⟨some 9, none, none, .objs [], .mv (.c (.sc (.int .i64 0)))⟩])) <|
  .block 0 (.loop (some [0, 7, 8, 9]) il35l0)) <|
  .seq (.ops ([
  ⟨some 19, none, none, .objs [], .mv (.v 0)⟩,
  ⟨some 4, none, none, .objs [], .mv (.v 19)⟩])) <|
  .ret

theorem il35_eq : cFn Try.prog pol 35 = some ⟨20, il35c, [(4, none)]⟩ := by kernel_rfl

noncomputable def il36l0b : C :=
  .seq (.ops ([
  ⟨some 9, none, none, .objs [], .bin .lss false (.v 8) (.v 7)⟩])) <|
  .seq (.cond (.v 9) (.nop) (.exit 0)) <|
  .seq (.block 1 (.seq (.ops ([
    ⟨some 10, none, none, .objs [], .iaS 1 (.v 6) (.v 8)⟩,
    ⟨some 11, none, none, .objs [], .ld false 1 (.v 10)⟩,
    ⟨some 5, none, none, .objs [], .mv (.v 11)⟩])) <|
    .ops ([
    ⟨some 12, none, none, .objs [], .mv (.v 3)⟩,
    ⟨some 13, none, none, .objs [], .mv (.v 5)⟩,
    ⟨some 14, none, none, .objs [], .bin .add false (.v 12) (.v 13)⟩,
    ⟨some 3, none, none, .objs [], .mv (.v 14)⟩]))) <|
  .ops ([
  ⟨some 15, none, none, .objs [], .bin .add false (.v 8) (.c (.sc (.int .i64 1)))⟩,
  ⟨some 8, none, none, .objs [], .mv (.v 15)⟩])
noncomputable def il36l0 : C := il36l0b
theorem il36l0_go {P : Program} {pol : Pol} {K : Oracle} {I : Inl} {n : Nat} {f : FuncId} {R : Xit → FEnv → Heap → Prop} {e : FEnv} {h : Heap} : wc P pol K I n f il36l0 R e h = wc P pol K I n f il36l0b R e h := (fun x => x) rfl

/-- isochron/vector.sum -/
noncomputable def il36c : C :=
  .seq (.ops ([
  ⟨some 2, none, none, .objs [], .mv (.c (.sc (.int .u8 0)))⟩])) <|
  .seq (.ops ([
  ⟨some 3, none, none, .objs [], .mv (.c (.sc (.int .u8 0)))⟩])) <|
  .seq (.seq (.ops ([
  ⟨some 6, none, none, .objs [], .mv (.v 0)⟩,
  ⟨some 7, none, none, .objs [], .lenS (.v 6)⟩,
  ⟨some 8, none, none, .objs [], .mv (.c (.sc (.int .i64 0)))⟩])) <|
  .block 0 (.loop (some [3, 6, 7, 8]) il36l0)) <|
  .seq (.ops ([
  ⟨some 16, none, none, .objs [], .mv (.v 3)⟩,
  ⟨some 2, none, none, .objs [], .mv (.v 16)⟩])) <|
  .ret

theorem il36_eq : cFn Try.prog pol 36 = some ⟨17, il36c, [(2, none)]⟩ := by kernel_rfl

noncomputable def il37l0b : C :=
  .seq (.ops ([
  ⟨some 18, none, none, .objs [], .bin .lss false (.v 17) (.c (.sc (.int .i64 4)))⟩])) <|
  .seq (.cond (.v 18) (.nop) (.exit 0)) <|
  .seq (.block 1 (.ops ([
    ⟨some 19, none, none, .objs [], .mv (.v 5)⟩,
    ⟨some 20, none, none, .objs [], .bin .shl false (.v 19) (.c (.sc (.int .u64 8)))⟩,
    ⟨some 21, none, none, .objs [], .mv (.v 3)⟩,
    ⟨some 22, none, none, .objs [], .call (.v 21) []⟩,
    ⟨some 23, none, none, .objs [], .bin .or false (.v 20) (.v 22)⟩,
    ⟨some 5, none, none, .objs [], .mv (.v 23)⟩]))) <|
  .ops ([
  ⟨some 24, none, none, .objs [], .bin .add false (.v 17) (.c (.sc (.int .i64 1)))⟩,
  ⟨some 17, none, none, .objs [], .mv (.v 24)⟩])
noncomputable def il37l0 : C := il37l0b
theorem il37l0_go {P : Program} {pol : Pol} {K : Oracle} {I : Inl} {n : Nat} {f : FuncId} {R : Xit → FEnv → Heap → Prop} {e : FEnv} {h : Heap} : wc P pol K I n f il37l0 R e h = wc P pol K I n f il37l0b R e h := (fun x => x) rfl

/-- (*isochron/vector.decoder).hello -/
noncomputable def il37c : C :=
  .seq (.ops ([
  ⟨some 2, none, none, .objs [], .nw 7 (.agg [(.sc (.int .i64 0)), (.sc (.int .i64 0)), (.sc (.int .i64 0)), (.sc (.int .i64 0)), (.sc (.int .i64 0)), (.sc (.int .i64 0)), (.sc (.int .i64 0))])⟩])) <|
  .seq (.ops ([
  ⟨some 9, none, none, .objs [], .mv (.v 0)⟩,
  ⟨some 10, none, none, .objs [], .nc (.v 9)⟩,
  ⟨some 11, none, none, .objs [], .fa 0 (.v 10)⟩,
  ⟨some 12, none, none, .objs [], .fn 41 [(.v 11)] []⟩,
  ⟨some 3, none, none, .objs [], .mv (.v 12)⟩])) <|
  .seq (.ops ([
  ⟨some 13, none, none, .objs [], .mv (.v 0)⟩,
  ⟨some 14, none, none, .objs [], .nc (.v 13)⟩,
  ⟨some 15, none, none, .objs [], .fa 0 (.v 14)⟩,
  ⟨some 16, none, none, .objs [], .call (.c (.fn (.func 42) [] [])) [(.v 15)]⟩,
  ⟨some 4, none, none, .objs [], .nw 2 (.agg [(.sc (.int .i64 0)), (.sc (.int .i64 0))])⟩,
  ⟨none, none, none, .objs [], .st 2 (.v 4) (.v 16)⟩,
  ⟨some 5, none, none, .objs [], .mv (.c (.sc (.int .i64 0)))⟩])) <|
  .seq (.seq (.ops ([
  ⟨some 17, none, none, .objs [], .mv (.c (.sc (.int .i64 0)))⟩])) <| mkC [0, 2, 3, 4, 5, 17] <|
  .block 0 (.loop (some [0, 2, 3, 4, 5, 17]) il37l0)) <|
  .seq (.ops ([
  ⟨some 25, none, none, .objs [], .mv (.v 0)⟩,
  ⟨some 26, none, none, .objs [], .nc (.v 25)⟩,
  ⟨some 27, none, none, .objs [], .fa 0 (.v 26)⟩,
  ⟨some 28, none, none, .objs [], .call (.c (.fn (.func 42) [] [])) [(.v 27)]⟩,
  ⟨some 6, none, none, .objs [], .nw 2 (.agg [(.sc (.int .i64 0)), (.sc (.int .i64 0))])⟩,
  ⟨none, none, none, .objs [], .st 2 (.v 6) (.v 28)⟩])) <|
  .seq (.ops ([
  ⟨some 29, none, none, .objs [], .mv (.v 3)⟩,
  ⟨some 30, none, none, .objs [], .call (.v 29) []⟩,
  ⟨some 7, none, none, .objs [], .mv (.v 30)⟩])) <|
  .seq (.ops ([
  ⟨some 31, none, none, .objs [], .mv (.v 3)⟩,
  ⟨some 32, none, none, .objs [], .call (.v 31) []⟩,
  ⟨some 8, none, none, .objs [], .mv (.v 32)⟩])) <|
  .seq (.ops ([
  ⟨some 33, none, none, .objs [], .ld true 2 (.v 4)⟩,
  ⟨some 34, none, none, .objs [], .mv (.v 5)⟩] ++ mkL [2, 6, 7, 8, 33, 34] ([
  ⟨some 35, none, none, .objs [], .ld true 2 (.v 6)⟩,
  ⟨some 36, none, none, .objs [], .mv (.v 7)⟩,
  ⟨some 37, none, none, .objs [], .bd [(.sc (.int .i64 0)), (.sc (.int .i64 0)), (.sc (.int .i64 0)), (.sc (.int .i64 0)), (.sc (.int .i64 0)), (.sc (.int .i64 0))] [(0, 2, (.v 33)), (2, 1, (.v 34)), (3, 2, (.v 35)), (5, 1, (.v 36))]⟩,
  ⟨some 38, none, none, .objs [], .mv (.v 8)⟩,
  ⟨some 39, none, none, .objs [], .bd [(.sc (.int .i64 0)), (.sc (.int .i64 0)), (.sc (.int .i64 0)), (.sc (.int .i64 0)), (.sc (.int .i64 0)), (.sc (.int .i64 0)), (.sc (.int .i64 0))] [(0, 6, (.v 37)), (6, 1, (.v 38))]⟩,
  ⟨none, none, none, .objs [], .st 7 (.v 2) (.v 39)⟩]))) <|
  .ret

theorem il37_eq : cFn Try.prog pol 37 = some ⟨40, il37c, [(2, some (true, 7))]⟩ := by kernel_rfl

/-- isochron/isochronlaw18.made$1 -/
noncomputable def il38c : C :=
  .seq (.ops ([
  ⟨some 4, none, none, .objs [], .mv (.c (.sc (.int .i64 0)))⟩])) <|
  .seq (.ops ([
  ⟨some 5, none, none, .objs [], .mv (.v 0)⟩,
  ⟨some 6, none, none, .objs [], .cv .u64 (.v 5)⟩,
  ⟨some 7, none, none, .objs [], .mv (.v 1)⟩,
  ⟨some 8, none, none, .objs [], .bin .add false (.v 7) (.c (.sc (.int .i64 1)))⟩,
  ⟨some 9, none, none, .objs [], .cv .u64 (.v 8)⟩,
  ⟨some 10, none, none, .objs [], .bin .rem false (.v 6) (.v 9)⟩,
  ⟨some 11, none, none, .objs [], .cv .i64 (.v 10)⟩,
  ⟨some 4, none, none, .objs [], .mv (.v 11)⟩])) <|
  .ret

theorem il38_eq : cFn Try.prog pol 38 = some ⟨12, il38c, [(4, none)]⟩ := by kernel_rfl

/-- isochron/isochronlaw18.made$2 -/
noncomputable def il39c : C :=
  .seq (.ops ([
  ⟨some 2, none, none, .objs [], .bx false (.v 0)⟩,
  ⟨some 3, none, none, .objs [], .nw 2 (.agg [(.sc (.int .i64 0)), (.sc (.int .i64 0))])⟩])) <|
  .seq (.opsD [(3, 4), (3, 6)] ([
  ⟨some 4, none, none, .objs [(.v 1)], .ld false 1 (.v 1)⟩,
  ⟨some 5, none, none, .objs [], .fa 0 (.v 2)⟩,
  ⟨some 6, none, none, .objs [(.v 5)], .ld false 1 (.v 5)⟩,
  ⟨some 7, none, none, .cal (.v 4) [(.v 6), (.c (.sc (.int .i64 15)))], .call (.v 4) [(.v 6), (.c (.sc (.int .i64 15)))]⟩,
  ⟨some 8, none, none, .objs [(.v 1)], .ld false 1 (.v 1)⟩,
  ⟨some 9, none, none, .objs [], .fa 1 (.v 2)⟩,
  ⟨some 10, none, none, .objs [(.v 9)], .ld false 1 (.v 9)⟩,
  ⟨some 11, none, none, .cal (.v 8) [(.v 10), (.c (.sc (.int .i64 11)))], .call (.v 8) [(.v 10), (.c (.sc (.int .i64 11)))]⟩,
  ⟨some 12, none, none, .objs [], .bd [(.sc (.int .i64 0)), (.sc (.int .i64 0))] [(0, 1, (.v 7)), (1, 1, (.v 11))]⟩,
  ⟨none, none, none, .objs [(.v 3)], .st 2 (.v 3) (.v 12)⟩])) <|
  .ret

theorem il39_eq : cFn Try.prog pol 39 = some ⟨13, il39c, [(3, some (true, 2))]⟩ := by kernel_rfl

/-- cmp.isNaN[int] -/
noncomputable def il40c : C :=
  .seq (.ops ([
  ⟨some 2, none, none, .objs [], .mv (.c (.sc (.bool false)))⟩])) <|
  .seq (.ops ([
  ⟨some 3, none, none, .objs [], .mv (.v 0)⟩,
  ⟨some 4, none, none, .objs [], .mv (.v 0)⟩,
  ⟨some 5, none, none, .objs [], .bin .neq false (.v 3) (.v 4)⟩,
  ⟨some 2, none, none, .objs [], .mv (.v 5)⟩])) <|
  .ret

theorem il40_eq : cFn Try.prog pol 40 = some ⟨6, il40c, [(2, none)]⟩ := by kernel_rfl

/-- (*isochron/vector.input).octet -/
noncomputable def il41c : C :=
  .seq (.ops ([
  ⟨some 2, none, none, .objs [], .mv (.c (.sc (.int .i64 0)))⟩])) <|
  .seq (.seq (.ops ([
  ⟨some 4, none, none, .objs [], .mv (.v 0)⟩,
  ⟨some 5, none, none, .objs [], .nc (.v 4)⟩,
  ⟨some 6, none, none, .objs [], .fa 0 (.v 5)⟩,
  ⟨some 7, none, none, .objs [], .ld false 1 (.v 6)⟩,
  ⟨some 8, none, none, .objs [], .lenS (.v 7)⟩,
  ⟨some 9, none, none, .objs [], .bin .eql false (.v 8) (.c (.sc (.int .i64 0)))⟩])) <|
  .cond (.v 9) (.seq (.ops ([
    ⟨some 2, none, none, .objs [], .mv (.c (.sc (.int .i64 0)))⟩])) <|
    .ret) (.nop)) <|
  .seq (.ops ([
  ⟨some 10, none, none, .objs [], .mv (.v 0)⟩,
  ⟨some 11, none, none, .objs [], .nc (.v 10)⟩,
  ⟨some 12, none, none, .objs [], .fa 0 (.v 11)⟩,
  ⟨some 13, none, none, .objs [], .ld false 1 (.v 12)⟩,
  ⟨some 14, none, none, .objs [], .iaS 1 (.v 13) (.c (.sc (.int .i64 0)))⟩,
  ⟨some 15, none, none, .objs [], .ld false 1 (.v 14)⟩] ++ mkL [0, 15] ([
  ⟨some 3, none, none, .objs [], .mv (.v 15)⟩]))) <|
  .seq (.ops ([
  ⟨some 16, none, none, .objs [], .mv (.v 0)⟩,
  ⟨some 17, none, none, .objs [], .mv (.v 0)⟩,
  ⟨some 18, none, none, .objs [], .nc (.v 17)⟩,
  ⟨some 19, none, none, .objs [], .fa 0 (.v 18)⟩,
  ⟨some 20, none, none, .objs [], .ld false 1 (.v 19)⟩,
  ⟨some 21, none, none, .objs [], .sl 1 (.v 20) (some (.c (.sc (.int .i64 1)))) none none⟩,
  ⟨some 22, none, none, .objs [], .nc (.v 16)⟩,
  ⟨some 23, none, none, .objs [], .fa 0 (.v 22)⟩,
  ⟨none, none, none, .objs [], .st 1 (.v 23) (.v 21)⟩])) <|
  .seq (.ops ([
  ⟨some 24, none, none, .objs [], .mv (.v 3)⟩,
  ⟨some 25, none, none, .objs [], .cv .i64 (.v 24)⟩,
  ⟨some 2, none, none, .objs [], .mv (.v 25)⟩])) <|
  .ret

theorem il41_eq : cFn Try.prog pol 41 = some ⟨26, il41c, [(2, none)]⟩ := by kernel_rfl

/-- (*isochron/vector.input).bid -/
noncomputable def il42c : C :=
  .seq (.ops ([
  ⟨some 2, none, none, .objs [], .nw 2 (.agg [(.sc (.int .i64 0)), (.sc (.int .i64 0))])⟩])) <|
  .seq (.ops ([
  ⟨some 4, none, none, .objs [], .mv (.v 0)⟩,
  ⟨some 5, none, none, .objs [], .call (.c (.fn (.func 41) [] [])) [(.v 4)]⟩,
  ⟨some 3, none, none, .objs [], .mv (.v 5)⟩])) <|
  .seq (.ops ([
  ⟨some 6, none, none, .objs [], .mv (.v 3)⟩,
  ⟨some 7, none, none, .objs [], .bin .quo false (.v 6) (.c (.sc (.int .i64 16)))⟩,
  ⟨some 8, none, none, .objs [], .mv (.v 3)⟩,
  ⟨some 9, none, none, .objs [], .bin .rem false (.v 8) (.c (.sc (.int .i64 16)))⟩,
  ⟨some 10, none, none, .objs [], .bd [(.sc (.int .i64 0)), (.sc (.int .i64 0))] [(0, 1, (.v 7)), (1, 1, (.v 9))]⟩,
  ⟨none, none, none, .objs [], .st 2 (.v 2) (.v 10)⟩])) <|
  .ret

theorem il42_eq : cFn Try.prog pol 42 = some ⟨11, il42c, [(2, some (true, 2))]⟩ := by kernel_rfl


end Go.Proofs.Ytklhidaojokoaaa
