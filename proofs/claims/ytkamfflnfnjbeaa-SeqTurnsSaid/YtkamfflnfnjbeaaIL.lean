/- Functions of the program, worked out ahead (printed by a program; each is checked against the program by the kernel). -/
import Derived.Test.YtkamfflnfnjbeaaILBase
set_option linter.unusedSimpArgs false
set_option linter.unusedVariables false
namespace Go.Proofs.Ytkamfflnfnjbeaa
open Go Go.Abs
set_option maxRecDepth 100000

/-- isochron/isochronlaw39.SeqDeltas -/
noncomputable def il3c : C :=
  .seq (.ops ([
  ⟨some 8, none, none, .objs [], .mv (.c (.sc (.bool false)))⟩])) <|
  .seq (.seq (.ops ([
  ⟨some 15, none, none, .objs [], .call (.c (.fn (.func 15) [] [])) []⟩,
  ⟨some 16, none, none, .objs [], .nt (.v 15)⟩])) <|
  .cond (.v 16) (.seq (.ops ([
    ⟨some 8, none, none, .objs [], .mv (.c (.sc (.bool false)))⟩])) <|
    .ret) (.nop)) <|
  .seq (.ops ([
  ⟨some 18, none, none, .objs [], .mv (.v 2)⟩,
  ⟨some 19, none, none, .objs [], .cv .i64 (.v 18)⟩,
  ⟨some 20, none, none, .objs [], .mv (.v 3)⟩,
  ⟨some 21, none, none, .objs [], .cv .i64 (.v 20)⟩,
  ⟨some 22, none, none, .objs [], .call (.c (.fn (.func 16) [] [])) [(.v 19), (.v 21)]⟩,
  ⟨some 17, none, none, .objs [], .mv (.v 22)⟩,
  ⟨some 23, none, none, .objs [], .ex (.v 17) 0⟩,
  ⟨some 24, none, none, .objs [], .ex (.v 17) 1⟩,
  ⟨some 9, none, none, .objs [], .mv (.v 23)⟩,
  ⟨some 10, none, none, .objs [], .mv (.v 24)⟩])) <| mkC [0, 1, 2, 3, 9, 10] <|
  .seq (.ops ([
  ⟨some 26, none, none, .objs [], .mv (.v 2)⟩,
  ⟨some 27, none, none, .objs [], .cv .i64 (.v 26)⟩,
  ⟨some 28, none, none, .objs [], .mv (.v 1)⟩,
  ⟨some 29, none, none, .objs [], .call (.c (.fn (.func 17) [] [])) [(.v 27), (.v 28)]⟩,
  ⟨some 25, none, none, .objs [], .mv (.v 29)⟩,
  ⟨some 30, none, none, .objs [], .ex (.v 25) 0⟩,
  ⟨some 31, none, none, .objs [], .ex (.v 25) 1⟩,
  ⟨some 11, none, none, .objs [], .mv (.v 30)⟩,
  ⟨some 12, none, none, .objs [], .mv (.v 31)⟩])) <|
  .seq (.seq (.ops ([
  ⟨some 32, none, none, .objs [], .mv (.v 10)⟩,
  ⟨some 33, none, none, .objs [], .bin .neq false (.v 32) (.c (.sc (.int .i64 0)))⟩,
  ⟨some 34, none, none, .objs [], .mv (.v 33)⟩,
  ⟨some 35, some (34, false), none, .objs [], .mv (.v 9)⟩,
  ⟨some 36, some (34, false), none, .objs [], .mv (.v 2)⟩] ++ mkL [0, 1, 2, 3, 11, 12, 34, 35, 36] ([
  ⟨some 37, some (34, false), none, .objs [], .cv .i64 (.v 36)⟩,
  ⟨some 38, some (34, false), none, .objs [], .mv (.v 3)⟩,
  ⟨some 39, some (34, false), none, .objs [], .cv .i64 (.v 38)⟩,
  ⟨some 40, some (34, false), none, .objs [], .call (.c (.fn (.func 18) [] [])) [(.v 37), (.v 39)]⟩,
  ⟨some 41, some (34, false), none, .objs [], .bin .neq false (.v 35) (.v 40)⟩,
  ⟨some 42, none, none, .objs [], .pk (.v 34) (.c (.sc (.bool true))) (.v 41)⟩,
  ⟨some 43, none, none, .objs [], .mv (.v 42)⟩,
  ⟨some 44, some (43, false), none, .objs [], .mv (.v 12)⟩,
  ⟨some 45, some (43, false), none, .objs [], .bin .neq false (.v 44) (.c (.sc (.int .i64 0)))⟩,
  ⟨some 46, none, none, .objs [], .pk (.v 43) (.c (.sc (.bool true))) (.v 45)⟩,
  ⟨some 47, none, none, .objs [], .mv (.v 46)⟩,
  ⟨some 48, some (47, false), none, .objs [], .mv (.v 11)⟩,
  ⟨some 49, some (47, false), none, .objs [], .mv (.v 2)⟩,
  ⟨some 50, some (47, false), none, .objs [], .cv .i64 (.v 49)⟩] ++ mkL [0, 1, 2, 3, 47, 48, 50] ([
  ⟨some 51, some (47, false), none, .objs [], .mv (.v 1)⟩,
  ⟨some 52, some (47, false), none, .objs [], .call (.c (.fn (.func 19) [] [])) [(.v 50), (.v 51)]⟩,
  ⟨some 53, some (47, false), none, .objs [], .bin .neq false (.v 48) (.v 52)⟩,
  ⟨some 54, none, none, .objs [], .pk (.v 47) (.c (.sc (.bool true))) (.v 53)⟩])))) <|
  .cond (.v 54) (.seq (.ops ([
    ⟨some 8, none, none, .objs [], .mv (.c (.sc (.bool false)))⟩])) <|
    .ret) (.nop)) <|
  .seq (.ops ([
  ⟨some 56, none, none, .objs [], .mv (.v 0)⟩,
  ⟨some 57, none, none, .objs [], .mv (.v 3)⟩,
  ⟨some 58, none, none, .objs [], .cv .i64 (.v 57)⟩,
  ⟨some 59, none, none, .objs [], .call (.c (.fn (.func 16) [] [])) [(.v 56), (.v 58)]⟩,
  ⟨some 55, none, none, .objs [], .mv (.v 59)⟩,
  ⟨some 60, none, none, .objs [], .ex (.v 55) 0⟩,
  ⟨some 61, none, none, .objs [], .ex (.v 55) 1⟩,
  ⟨some 9, none, none, .objs [], .mv (.v 60)⟩,
  ⟨some 10, none, none, .objs [], .mv (.v 61)⟩])) <| mkC [0, 1, 2, 9, 10] <|
  .seq (.ops ([
  ⟨some 63, none, none, .objs [], .mv (.v 2)⟩,
  ⟨some 64, none, none, .objs [], .cv .i64 (.v 63)⟩,
  ⟨some 65, none, none, .objs [], .mv (.v 1)⟩,
  ⟨some 66, none, none, .objs [], .call (.c (.fn (.func 16) [] [])) [(.v 64), (.v 65)]⟩,
  ⟨some 62, none, none, .objs [], .mv (.v 66)⟩,
  ⟨some 67, none, none, .objs [], .ex (.v 62) 0⟩,
  ⟨some 68, none, none, .objs [], .ex (.v 62) 1⟩,
  ⟨some 11, none, none, .objs [], .mv (.v 67)⟩,
  ⟨some 12, none, none, .objs [], .mv (.v 68)⟩])) <|
  .seq (.ops ([
  ⟨some 70, none, none, .objs [], .mv (.v 0)⟩,
  ⟨some 71, none, none, .objs [], .mv (.v 1)⟩,
  ⟨some 72, none, none, .objs [], .call (.c (.fn (.func 17) [] [])) [(.v 70), (.v 71)]⟩,
  ⟨some 69, none, none, .objs [], .mv (.v 72)⟩,
  ⟨some 73, none, none, .objs [], .ex (.v 69) 0⟩] ++ mkL [0, 1, 9, 10, 11, 12, 69, 73] ([
  ⟨some 74, none, none, .objs [], .ex (.v 69) 1⟩,
  ⟨some 13, none, none, .objs [], .mv (.v 73)⟩,
  ⟨some 14, none, none, .objs [], .mv (.v 74)⟩]))) <|
  .seq (.seq (.ops ([
  ⟨some 75, none, none, .objs [], .mv (.v 0)⟩,
  ⟨some 76, none, none, .objs [], .call (.c (.fn (.func 20) [] [])) [(.v 75)]⟩,
  ⟨some 77, none, none, .objs [], .nt (.v 76)⟩,
  ⟨some 78, none, none, .objs [], .mv (.v 77)⟩,
  ⟨some 79, some (78, true), none, .objs [], .mv (.v 10)⟩,
  ⟨some 80, some (78, true), none, .objs [], .bin .neq false (.v 79) (.c (.sc (.int .i64 2)))⟩,
  ⟨some 81, some (78, true), none, .objs [], .mv (.v 80)⟩,
  ⟨some 82, some (81, false), none, .objs [], .mv (.v 9)⟩,
  ⟨some 83, some (81, false), none, .objs [], .bin .neq false (.v 82) (.c (.sc (.int .i64 0)))⟩,
  ⟨some 84, some (78, true), none, .objs [], .pk (.v 81) (.c (.sc (.bool true))) (.v 83)⟩,
  ⟨some 85, some (78, true), none, .objs [], .mv (.v 84)⟩] ++ mkL [1, 11, 12, 13, 14, 78, 85] ([
  ⟨some 86, some (85, false), none, .objs [], .mv (.v 14)⟩,
  ⟨some 87, some (85, false), none, .objs [], .bin .neq false (.v 86) (.c (.sc (.int .i64 2)))⟩,
  ⟨some 88, some (78, true), none, .objs [], .pk (.v 85) (.c (.sc (.bool true))) (.v 87)⟩,
  ⟨some 89, some (78, true), none, .objs [], .mv (.v 88)⟩,
  ⟨some 90, some (89, false), none, .objs [], .mv (.v 13)⟩,
  ⟨some 91, some (89, false), none, .objs [], .bin .neq false (.v 90) (.c (.sc (.int .i64 0)))⟩,
  ⟨some 92, some (78, true), none, .objs [], .pk (.v 89) (.c (.sc (.bool true))) (.v 91)⟩,
  ⟨some 93, none, none, .objs [], .pk (.v 78) (.v 92) (.c (.sc (.bool false)))⟩]))) <|
  .cond (.v 93) (.seq (.ops ([
    ⟨some 8, none, none, .objs [], .mv (.c (.sc (.bool false)))⟩])) <|
    .ret) (.nop)) <|
  .seq (.ops ([
  ⟨some 94, none, none, .objs [], .mv (.v 1)⟩,
  ⟨some 95, none, none, .objs [], .call (.c (.fn (.func 20) [] [])) [(.v 94)]⟩,
  ⟨some 96, none, none, .objs [], .mv (.v 95)⟩,
  ⟨some 97, some (96, false), none, .objs [], .mv (.v 12)⟩,
  ⟨some 98, some (96, false), none, .objs [], .bin .eql false (.v 97) (.c (.sc (.int .i64 2)))⟩] ++ mkL [11, 96, 98] ([
  ⟨some 99, some (96, false), none, .objs [], .mv (.v 98)⟩,
  ⟨some 100, some (99, true), none, .objs [], .mv (.v 11)⟩,
  ⟨some 101, some (99, true), none, .objs [], .bin .eql false (.v 100) (.c (.sc (.int .i64 0)))⟩,
  ⟨some 102, some (96, false), none, .objs [], .pk (.v 99) (.v 101) (.c (.sc (.bool false)))⟩,
  ⟨some 103, none, none, .objs [], .pk (.v 96) (.c (.sc (.bool true))) (.v 102)⟩,
  ⟨some 8, none, none, .objs [], .mv (.v 103)⟩]))) <|
  .ret

theorem il3_eq : cFn Try.prog pol 3 = some ⟨104, il3c, [(8, none)]⟩ := by kernel_rfl

noncomputable def il4l0 : C :=
  .seq (.ops ([
  ⟨some 87, none, none, .objs [], .bin .lss false (.v 86) (.v 85)⟩])) <|
  .seq (.cond (.v 87) (.nop) (.exit 2)) <|
  .seq (.block 3 (.seq (.ops ([
    ⟨some 88, none, none, .objs [], .mv (.v 86)⟩,
    ⟨some 89, none, none, .objs [], .iaS 6 (.v 84) (.v 86)⟩,
    ⟨some 90, none, none, .objs [], .ld true 6 (.v 89)⟩,
    ⟨some 15, none, none, .objs [], .nw 6 (.agg [(.sc (.int .i64 0)), (.sc (.int .i64 0)), (.sc (.int .i64 0)), (.sc (.int .i64 0)), (.sc (.int .i64 0)), (.sc (.slice none 0 0))])⟩,
    ⟨some 14, none, none, .objs [], .mv (.v 88)⟩,
    ⟨none, none, none, .objs [], .st 6 (.v 15) (.v 90)⟩])) <|
    .seq (.opsD [] ([
    ⟨some 91, none, none, .objs [], .fa 0 (.v 15)⟩,
    ⟨some 92, none, none, .objs [(.v 91)], .ld true 5 (.v 91)⟩,
    ⟨some 93, none, none, .objs [(.v 11)], .ld true 5 (.v 11)⟩,
    ⟨some 94, none, none, .objs [], .raw (opOf Try.prog 4 18 3)⟩,
    ⟨some 95, none, none, .objs [], .mv (.v 94)⟩,
    ⟨some 96, some (95, false), none, .objs [], .fa 5 (.v 15)⟩,
    ⟨some 97, some (95, false), none, .objs [(.v 96)], .ld false 1 (.v 96)⟩] ++ mkL [1, 11, 14, 34, 35, 84, 85, 86, 95, 97] ([
    ⟨some 98, some (95, false), none, .objs [], .mv (.v 1)⟩,
    ⟨some 99, some (95, false), none, .objs [], .mv (.v 14)⟩,
    ⟨some 100, some (95, false), none, .objs [], .iaS 1 (.v 98) (.v 99)⟩,
    ⟨some 101, some (95, false), none, .objs [(.v 100)], .ld false 1 (.v 100)⟩,
    ⟨some 102, some (95, false), none, .cal (.c (.fn (.func 22) [] [])) [(.v 97), (.v 101)], .call (.c (.fn (.func 22) [] [])) [(.v 97), (.v 101)]⟩,
    ⟨some 103, some (95, false), none, .objs [], .nt (.v 102)⟩,
    ⟨some 104, none, none, .objs [], .pk (.v 95) (.c (.sc (.bool true))) (.v 103)⟩]))) <|
    .cond (.v 104) (.seq (.ops ([
      ⟨some 8, none, none, .objs [], .mv (.c (.sc (.bool false)))⟩])) <|
      .ret) (.nop))) <|
  .ops ([
  ⟨some 105, none, none, .objs [], .bin .add false (.v 86) (.c (.sc (.int .i64 1)))⟩,
  ⟨some 86, none, none, .objs [], .mv (.v 105)⟩])

noncomputable def il4l1 : C :=
  .seq (.ops ([
  ⟨some 36, none, none, .objs [], .bin .lss false (.v 35) (.c (.sc (.int .i64 2)))⟩])) <|
  .seq (.cond (.v 36) (.nop) (.exit 0)) <|
  .seq (.block 1 (.seq (.ops ([
    ⟨some 37, none, none, .objs [], .ixA true 5 2 5 (.v 34) (.v 35)⟩,
    ⟨some 11, none, none, .objs [], .nw 5 (.agg [(.sc (.int .i64 0)), (.sc (.int .i64 0)), (.sc (.int .i64 0)), (.sc (.int .i64 0)), (.sc (.int .i64 0))])⟩,
    ⟨none, none, none, .objs [], .st 5 (.v 11) (.v 37)⟩])) <|
    .seq (.ops ([
    ⟨some 39, none, none, .objs [], .ld true 5 (.v 11)⟩,
    ⟨some 40, none, none, .objs [], .mv (.v 1)⟩,
    ⟨some 41, none, none, .objs [], .call (.c (.fn (.func 21) [] [])) [(.v 39), (.v 40)]⟩,
    ⟨some 38, none, none, .objs [], .mv (.v 41)⟩,
    ⟨some 42, none, none, .objs [], .ex (.v 38) 0⟩,
    ⟨some 43, none, none, .objs [], .ex (.v 38) 1⟩,
    ⟨some 12, none, none, .objs [], .mv (.v 42)⟩,
    ⟨some 13, none, none, .objs [], .mv (.v 43)⟩])) <|
    .seq (.seq (.ops ([
    ⟨some 44, none, none, .objs [], .fa 0 (.v 11)⟩,
    ⟨some 45, none, none, .objs [], .ld false 1 (.v 44)⟩] ++ mkL [1, 11, 12, 13, 34, 35, 45] ([
    ⟨some 46, none, none, .objs [], .bin .lss false (.v 45) (.c (.sc (.int .i64 1)))⟩,
    ⟨some 47, none, none, .objs [], .mv (.v 46)⟩,
    ⟨some 48, some (47, false), none, .objs [], .fa 0 (.v 11)⟩,
    ⟨some 49, some (47, false), none, .objs [], .ld false 1 (.v 48)⟩,
    ⟨some 50, some (47, false), none, .objs [], .bin .gtr false (.v 49) (.c (.sc (.int .i64 4095)))⟩,
    ⟨some 51, none, none, .objs [], .pk (.v 47) (.c (.sc (.bool true))) (.v 50)⟩,
    ⟨some 52, none, none, .objs [], .mv (.v 51)⟩,
    ⟨some 53, some (52, false), none, .objs [], .fa 1 (.v 11)⟩,
    ⟨some 54, some (52, false), none, .objs [], .ld false 1 (.v 53)⟩,
    ⟨some 55, some (52, false), none, .objs [], .call (.c (.fn (.func 20) [] [])) [(.v 54)]⟩,
    ⟨some 56, some (52, false), none, .objs [], .nt (.v 55)⟩,
    ⟨some 57, none, none, .objs [], .pk (.v 52) (.c (.sc (.bool true))) (.v 56)⟩,
    ⟨some 58, none, none, .objs [], .mv (.v 57)⟩,
    ⟨some 59, some (58, false), none, .objs [], .mv (.v 1)⟩] ++ mkL [1, 11, 12, 13, 34, 35, 58, 59] ([
    ⟨some 60, some (58, false), none, .objs [], .lenS (.v 59)⟩,
    ⟨some 61, some (58, false), none, .objs [], .bin .lss false (.v 60) (.c (.sc (.int .i64 1)))⟩,
    ⟨some 62, none, none, .objs [], .pk (.v 58) (.c (.sc (.bool true))) (.v 61)⟩,
    ⟨some 63, none, none, .objs [], .mv (.v 62)⟩,
    ⟨some 64, some (63, false), none, .objs [], .mv (.v 1)⟩,
    ⟨some 65, some (63, false), none, .objs [], .lenS (.v 64)⟩,
    ⟨some 66, some (63, false), none, .objs [], .bin .gtr false (.v 65) (.c (.sc (.int .i64 2)))⟩,
    ⟨some 67, none, none, .objs [], .pk (.v 63) (.c (.sc (.bool true))) (.v 66)⟩])))) <|
    .cond (.v 67) (.seq (.seq (.ops ([
      ⟨some 68, none, none, .objs [], .mv (.v 13)⟩,
      ⟨some 69, none, none, .objs [], .bin .neq false (.v 68) (.c (.sc (.int .i64 2)))⟩,
      ⟨some 70, none, none, .objs [], .mv (.v 69)⟩,
      ⟨some 71, some (70, false), none, .objs [], .mv (.v 12)⟩,
      ⟨some 72, some (70, false), none, .objs [], .lenS (.v 71)⟩,
      ⟨some 73, some (70, false), none, .objs [], .bin .gtr false (.v 72) (.c (.sc (.int .i64 0)))⟩] ++ mkL [1, 34, 35, 70, 73] ([
      ⟨some 74, none, none, .objs [], .pk (.v 70) (.c (.sc (.bool true))) (.v 73)⟩]))) <|
      .cond (.v 74) (.seq (.ops ([
        ⟨some 8, none, none, .objs [], .mv (.c (.sc (.bool false)))⟩])) <|
        .ret) (.nop)) <|
      .exit 1) (.nop)) <|
    .seq (.seq (.ops ([
    ⟨some 75, none, none, .objs [], .mv (.v 13)⟩,
    ⟨some 76, none, none, .objs [], .bin .neq false (.v 75) (.c (.sc (.int .i64 0)))⟩,
    ⟨some 77, none, none, .objs [], .mv (.v 76)⟩,
    ⟨some 78, some (77, false), none, .objs [], .mv (.v 12)⟩,
    ⟨some 79, some (77, false), none, .objs [], .lenS (.v 78)⟩,
    ⟨some 80, some (77, false), none, .objs [], .mv (.v 1)⟩] ++ mkL [1, 11, 12, 34, 35, 77, 79, 80] ([
    ⟨some 81, some (77, false), none, .objs [], .lenS (.v 80)⟩,
    ⟨some 82, some (77, false), none, .objs [], .bin .neq false (.v 79) (.v 81)⟩,
    ⟨some 83, none, none, .objs [], .pk (.v 77) (.c (.sc (.bool true))) (.v 82)⟩]))) <|
    .cond (.v 83) (.seq (.ops ([
      ⟨some 8, none, none, .objs [], .mv (.c (.sc (.bool false)))⟩])) <|
      .ret) (.nop)) <|
    .seq (.ops ([
    ⟨some 84, none, none, .objs [], .mv (.v 12)⟩,
    ⟨some 85, none, none, .objs [], .lenS (.v 84)⟩,
    ⟨some 86, none, none, .objs [], .mv (.c (.sc (.int .i64 0)))⟩])) <|
    .block 2 (.loop (some [1, 11, 34, 35, 84, 85, 86]) il4l0))) <|
  .ops ([
  ⟨some 106, none, none, .objs [], .bin .add false (.v 35) (.c (.sc (.int .i64 1)))⟩,
  ⟨some 35, none, none, .objs [], .mv (.v 106)⟩])

/-- isochron/isochronlaw39.SeqCopies -/
noncomputable def il4c : C :=
  .seq (.ops ([
  ⟨some 4, none, none, .objs [], .bx false (.v 0)⟩,
  ⟨some 8, none, none, .objs [], .mv (.c (.sc (.bool false)))⟩])) <|
  .seq (.seq (.ops ([
  ⟨some 16, none, none, .objs [], .call (.c (.fn (.func 15) [] [])) []⟩,
  ⟨some 17, none, none, .objs [], .nt (.v 16)⟩])) <|
  .cond (.v 17) (.seq (.ops ([
    ⟨some 8, none, none, .objs [], .mv (.c (.sc (.bool false)))⟩])) <|
    .ret) (.nop)) <|
  .seq (.ops ([
  ⟨some 18, none, none, .objs [], .mv (.v 1)⟩,
  ⟨some 19, none, none, .objs [], .mv (.v 1)⟩,
  ⟨some 20, none, none, .objs [], .lenS (.v 19)⟩,
  ⟨some 21, none, none, .objs [], .mnx false (.v 20) (.c (.sc (.int .i64 4)))⟩,
  ⟨some 22, none, none, .objs [], .sl 1 (.v 18) none (some (.v 21)) none⟩,
  ⟨some 1, none, none, .objs [], .mv (.v 22)⟩])) <|
  .seq (.ops ([
  ⟨some 23, none, none, .objs [], .ld true 5 (.v 4)⟩,
  ⟨some 9, none, none, .objs [], .nw 5 (.agg [(.sc (.int .i64 0)), (.sc (.int .i64 0)), (.sc (.int .i64 0)), (.sc (.int .i64 0)), (.sc (.int .i64 0))])⟩,
  ⟨none, none, none, .objs [], .st 5 (.v 9) (.v 23)⟩])) <| mkC [1, 2, 3, 4, 9] <|
  .seq (.ops ([
  ⟨some 24, none, none, .objs [], .mv (.v 2)⟩,
  ⟨some 25, none, none, .objs [], .bin .rem false (.v 24) (.c (.sc (.int .u16 4095)))⟩,
  ⟨some 26, none, none, .objs [], .cv .i64 (.v 25)⟩,
  ⟨some 27, none, none, .objs [], .bin .add false (.c (.sc (.int .i64 1))) (.v 26)⟩,
  ⟨some 28, none, none, .objs [], .mv (.v 3)⟩,
  ⟨some 29, none, none, .objs [], .cv .i64 (.v 28)⟩,
  ⟨some 30, none, none, .objs [], .fa 0 (.v 9)⟩,
  ⟨none, none, none, .objs [], .st 1 (.v 30) (.v 27)⟩,
  ⟨some 31, none, none, .objs [], .fa 1 (.v 9)⟩,
  ⟨none, none, none, .objs [], .st 1 (.v 31) (.v 29)⟩])) <|
  .seq (.seq (.ops ([
  ⟨some 32, none, none, .objs [], .ld true 5 (.v 4)⟩,
  ⟨some 33, none, none, .objs [], .ld true 5 (.v 9)⟩,
  ⟨some 34, none, none, .objs [], .bd [(.sc (.int .i64 0)), (.sc (.int .i64 0)), (.sc (.int .i64 0)), (.sc (.int .i64 0)), (.sc (.int .i64 0)), (.sc (.int .i64 0)), (.sc (.int .i64 0)), (.sc (.int .i64 0)), (.sc (.int .i64 0)), (.sc (.int .i64 0))] [(0, 5, (.v 32)), (5, 5, (.v 33))]⟩,
  ⟨some 35, none, none, .objs [], .mv (.c (.sc (.int .i64 0)))⟩])) <| mkC [1, 34, 35] <|
  .block 0 (.loop (some [1, 34, 35]) il4l1)) <|
  .seq (.ops ([
  ⟨some 8, none, none, .objs [], .mv (.c (.sc (.bool true)))⟩])) <|
  .ret

theorem il4_eq : cFn Try.prog pol 4 = some ⟨107, il4c, [(8, none)]⟩ := by kernel_rfl

noncomputable def il5l0 : C :=
  .seq (.ops ([
  ⟨some 29, none, none, .objs [], .bin .lss false (.v 28) (.v 27)⟩])) <|
  .seq (.cond (.v 29) (.nop) (.exit 0)) <|
  .seq (.block 1 (.seq (.ops ([
    ⟨some 30, none, none, .objs [], .iaS 2 (.v 26) (.v 28)⟩,
    ⟨some 31, none, none, .objs [], .ld true 2 (.v 30)⟩,
    ⟨some 8, none, none, .objs [], .nw 2 (.agg [(.sc (.int .i64 0)), (.sc (.int .i64 0))])⟩,
    ⟨none, none, none, .objs [], .st 2 (.v 8) (.v 31)⟩])) <|
    .ops ([
    ⟨some 32, none, none, .objs [], .mv (.v 6)⟩,
    ⟨some 33, none, none, .objs [], .fa 0 (.v 8)⟩,
    ⟨some 34, none, none, .objs [], .ld false 1 (.v 33)⟩,
    ⟨some 35, none, none, .objs [], .fa 1 (.v 8)⟩,
    ⟨some 36, none, none, .objs [], .ld false 1 (.v 35)⟩,
    ⟨none, none, none, .objs [], .raw (opOf Try.prog 5 8 5)⟩]))) <|
  .ops ([
  ⟨some 37, none, none, .objs [], .bin .add false (.v 28) (.c (.sc (.int .i64 1)))⟩,
  ⟨some 28, none, none, .objs [], .mv (.v 37)⟩])

noncomputable def il5l1 : C :=
  .seq (.ops ([
  ⟨some 45, none, none, .objs [], .bin .lss false (.v 44) (.v 43)⟩])) <|
  .seq (.cond (.v 45) (.nop) (.exit 2)) <|
  .seq (.block 3 (.seq (.ops ([
    ⟨some 46, none, none, .objs [], .iaS 1 (.v 42) (.v 44)⟩,
    ⟨some 47, none, none, .objs [], .ld false 1 (.v 46)⟩,
    ⟨some 10, none, none, .objs [], .mv (.v 47)⟩])) <|
    .seq (.ops ([
    ⟨some 48, none, none, .objs [], .mv (.v 10)⟩,
    ⟨some 49, none, none, .objs [], .bin .rem false (.v 48) (.c (.sc (.int .u8 20)))⟩,
    ⟨some 50, none, none, .objs [], .cv .i64 (.v 49)⟩,
    ⟨some 51, none, none, .objs [], .bin .mul false (.v 50) (.c (.sc (.int .i64 100)))⟩,
    ⟨some 52, none, none, .objs [], .bin .add false (.c (.sc (.int .i64 1))) (.v 51)⟩,
    ⟨some 11, none, none, .objs [], .mv (.v 52)⟩])) <|
    .seq (.ops ([
    ⟨some 54, none, none, .objs [], .mv (.v 5)⟩,
    ⟨some 55, none, none, .objs [], .mv (.v 11)⟩,
    ⟨some 56, none, none, .objs [], .call (.c (.fn (.func 24) [] [])) [(.v 54), (.v 55)]⟩,
    ⟨some 53, none, none, .objs [], .mv (.v 56)⟩] ++ mkL [5, 6, 11, 42, 43, 44, 53] ([
    ⟨some 57, none, none, .objs [], .ex (.v 53) 0⟩,
    ⟨some 58, none, none, .objs [], .ex (.v 53) 1⟩,
    ⟨some 59, none, none, .objs [], .ex (.v 53) 2⟩,
    ⟨some 12, none, none, .objs [], .mv (.v 57)⟩,
    ⟨some 13, none, none, .objs [], .mv (.v 58)⟩,
    ⟨some 14, none, none, .objs [], .mv (.v 59)⟩]))) <|
    .seq (.seq (.ops ([
    ⟨some 61, none, none, .objs [], .mv (.v 6)⟩,
    ⟨some 62, none, none, .objs [], .mv (.v 11)⟩,
    ⟨some 63, none, none, .objs [], .raw (opOf Try.prog 5 15 2)⟩,
    ⟨some 60, none, none, .objs [], .mv (.v 63)⟩,
    ⟨some 64, none, none, .objs [], .ex (.v 60) 0⟩,
    ⟨some 65, none, none, .objs [], .ex (.v 60) 1⟩,
    ⟨some 15, none, none, .objs [], .mv (.v 64)⟩,
    ⟨some 16, none, none, .objs [], .mv (.v 65)⟩])) <| mkC [5, 6, 11, 12, 13, 14, 16, 42, 43, 44] <|
    .seq (.ops ([
    ⟨some 66, none, none, .objs [], .mv (.v 16)⟩,
    ⟨some 67, none, none, .objs [], .nt (.v 66)⟩,
    ⟨some 68, none, none, .objs [], .mv (.v 67)⟩,
    ⟨some 69, some (68, true), none, .objs [], .mv (.v 6)⟩,
    ⟨some 70, some (68, true), none, .objs [], .raw (opOf Try.prog 5 16 4)⟩,
    ⟨some 71, some (68, true), none, .objs [], .bin .eql false (.v 70) (.c (.sc (.int .i64 12)))⟩,
    ⟨some 72, none, none, .objs [], .pk (.v 68) (.v 71) (.c (.sc (.bool false)))⟩])) <|
    .cond (.v 72) (.seq (.seq (.ops ([
      ⟨some 73, none, none, .objs [], .mv (.v 14)⟩,
      ⟨some 74, none, none, .objs [], .bin .neq false (.v 73) (.c (.sc (.int .i64 7)))⟩])) <|
      .cond (.v 74) (.seq (.ops ([
        ⟨some 4, none, none, .objs [], .mv (.c (.sc (.bool false)))⟩])) <|
        .ret) (.nop)) <|
      .exit 3) (.nop)) <|
    .seq (.seq (.ops ([
    ⟨some 75, none, none, .objs [], .mv (.v 14)⟩,
    ⟨some 76, none, none, .objs [], .bin .neq false (.v 75) (.c (.sc (.int .i64 0)))⟩,
    ⟨some 77, none, none, .objs [], .mv (.v 76)⟩,
    ⟨some 78, some (77, false), none, .objs [], .mv (.v 13)⟩] ++ mkL [6, 11, 12, 13, 42, 43, 44, 77, 78] ([
    ⟨some 79, some (77, false), none, .objs [], .mv (.v 6)⟩,
    ⟨some 80, some (77, false), none, .objs [], .mv (.v 11)⟩,
    ⟨some 81, some (77, false), none, .objs [], .raw (opOf Try.prog 5 19 6)⟩,
    ⟨some 82, some (77, false), none, .objs [], .bin .neq false (.v 78) (.v 81)⟩,
    ⟨some 83, none, none, .objs [], .pk (.v 77) (.c (.sc (.bool true))) (.v 82)⟩,
    ⟨some 84, none, none, .objs [], .mv (.v 83)⟩,
    ⟨some 85, some (84, false), none, .objs [], .mv (.v 12)⟩,
    ⟨some 86, some (84, false), none, .objs [], .call (.c (.fn (.func 25) [] [])) [(.v 85)]⟩,
    ⟨some 87, some (84, false), none, .objs [], .bin .neq false (.v 86) (.c (.sc (.int .i64 0)))⟩,
    ⟨some 88, none, none, .objs [], .pk (.v 84) (.c (.sc (.bool true))) (.v 87)⟩]))) <|
    .cond (.v 88) (.seq (.ops ([
      ⟨some 4, none, none, .objs [], .mv (.c (.sc (.bool false)))⟩])) <|
      .ret) (.nop)) <|
    .seq (.ops ([
    ⟨some 89, none, none, .objs [], .mv (.v 12)⟩,
    ⟨some 5, none, none, .objs [], .mv (.v 89)⟩])) <|
    .ops ([
    ⟨some 90, none, none, .objs [], .mv (.v 6)⟩] ++ mkL [5, 6, 11, 13, 42, 43, 44, 90] ([
    ⟨some 91, none, none, .objs [], .mv (.v 11)⟩,
    ⟨some 92, none, none, .objs [], .mv (.v 13)⟩,
    ⟨some 93, none, none, .objs [], .bin .add false (.v 92) (.c (.sc (.int .i64 1)))⟩,
    ⟨some 94, none, none, .objs [], .bin .rem false (.v 93) (.c (.sc (.int .i64 65536)))⟩,
    ⟨none, none, none, .objs [], .raw (opOf Try.prog 5 22 5)⟩])))) <|
  .ops ([
  ⟨some 95, none, none, .objs [], .bin .add false (.v 44) (.c (.sc (.int .i64 1)))⟩,
  ⟨some 44, none, none, .objs [], .mv (.v 95)⟩])

noncomputable def il5l2 : C :=
  .seq (.ops ([
  ⟨some 104, none, none, .objs [], .bin .lss false (.v 103) (.v 102)⟩])) <|
  .seq (.cond (.v 104) (.nop) (.exit 4)) <|
  .seq (.block 5 (.seq (.ops ([
    ⟨some 105, none, none, .objs [], .iaS 2 (.v 101) (.v 103)⟩,
    ⟨some 106, none, none, .objs [], .ld true 2 (.v 105)⟩,
    ⟨some 18, none, none, .objs [], .nw 2 (.agg [(.sc (.int .i64 0)), (.sc (.int .i64 0))])⟩,
    ⟨none, none, none, .objs [], .st 2 (.v 18) (.v 106)⟩])) <|
    .seq (.ops ([
    ⟨some 108, none, none, .objs [], .mv (.v 6)⟩,
    ⟨some 109, none, none, .objs [], .fa 0 (.v 18)⟩,
    ⟨some 110, none, none, .objs [], .ld false 1 (.v 109)⟩,
    ⟨some 111, none, none, .objs [], .raw (opOf Try.prog 5 29 3)⟩,
    ⟨some 107, none, none, .objs [], .mv (.v 111)⟩,
    ⟨some 112, none, none, .objs [], .ex (.v 107) 0⟩,
    ⟨some 113, none, none, .objs [], .ex (.v 107) 1⟩,
    ⟨some 19, none, none, .objs [], .mv (.v 112)⟩,
    ⟨some 20, none, none, .objs [], .mv (.v 113)⟩])) <| mkC [6, 18, 19, 20, 101, 102, 103] <|
    .seq (.ops ([
    ⟨some 114, none, none, .objs [], .mv (.v 20)⟩,
    ⟨some 115, none, none, .objs [], .nt (.v 114)⟩,
    ⟨some 116, none, none, .objs [], .mv (.v 115)⟩,
    ⟨some 117, some (116, false), none, .objs [], .mv (.v 19)⟩,
    ⟨some 118, some (116, false), none, .objs [], .fa 1 (.v 18)⟩,
    ⟨some 119, some (116, false), none, .objs [], .ld false 1 (.v 118)⟩,
    ⟨some 120, some (116, false), none, .objs [], .bin .neq false (.v 117) (.v 119)⟩,
    ⟨some 121, none, none, .objs [], .pk (.v 116) (.c (.sc (.bool true))) (.v 120)⟩])) <|
    .cond (.v 121) (.seq (.ops ([
      ⟨some 4, none, none, .objs [], .mv (.c (.sc (.bool false)))⟩])) <|
      .ret) (.nop))) <|
  .ops ([
  ⟨some 122, none, none, .objs [], .bin .add false (.v 103) (.c (.sc (.int .i64 1)))⟩,
  ⟨some 103, none, none, .objs [], .mv (.v 122)⟩])

/-- isochron/isochronlaw39.SeqRuns -/
noncomputable def il5c : C :=
  .seq (.ops ([
  ⟨some 4, none, none, .objs [], .mv (.c (.sc (.bool false)))⟩])) <|
  .seq (.seq (.ops ([
  ⟨some 21, none, none, .objs [], .call (.c (.fn (.func 15) [] [])) []⟩,
  ⟨some 22, none, none, .objs [], .nt (.v 21)⟩])) <|
  .cond (.v 22) (.seq (.ops ([
    ⟨some 4, none, none, .objs [], .mv (.c (.sc (.bool false)))⟩])) <|
    .ret) (.nop)) <|
  .seq (.ops ([
  ⟨some 23, none, none, .objs [], .mv (.v 0)⟩,
  ⟨some 24, none, none, .objs [], .call (.c (.fn (.func 23) [] [])) [(.v 23)]⟩,
  ⟨some 5, none, none, .objs [], .mv (.v 24)⟩])) <|
  .seq (.ops ([
  ⟨some 25, none, none, .objs [], .raw (opOf Try.prog 5 4 0)⟩,
  ⟨some 6, none, none, .objs [], .mv (.v 25)⟩])) <|
  .seq (.seq (.ops ([
  ⟨some 26, none, none, .objs [], .mv (.v 5)⟩,
  ⟨some 27, none, none, .objs [], .lenS (.v 26)⟩,
  ⟨some 28, none, none, .objs [], .mv (.c (.sc (.int .i64 0)))⟩])) <|
  .block 0 (.loop (some [1, 5, 6, 26, 27, 28]) il5l0)) <|
  .seq (.seq (.ops ([
  ⟨some 38, none, none, .objs [], .mv (.v 1)⟩,
  ⟨some 39, none, none, .objs [], .mv (.v 1)⟩,
  ⟨some 40, none, none, .objs [], .lenS (.v 39)⟩,
  ⟨some 41, none, none, .objs [], .mnx false (.v 40) (.c (.sc (.int .i64 60)))⟩,
  ⟨some 42, none, none, .objs [], .sl 1 (.v 38) none (some (.v 41)) none⟩,
  ⟨some 43, none, none, .objs [], .lenS (.v 42)⟩,
  ⟨some 44, none, none, .objs [], .mv (.c (.sc (.int .i64 0)))⟩])) <|
  .block 2 (.loop (some [5, 6, 42, 43, 44]) il5l1)) <|
  .seq (.seq (.ops ([
  ⟨some 96, none, none, .objs [], .mv (.v 5)⟩,
  ⟨some 97, none, none, .objs [], .lenS (.v 96)⟩,
  ⟨some 98, none, none, .objs [], .mv (.v 6)⟩,
  ⟨some 99, none, none, .objs [], .raw (opOf Try.prog 5 24 3)⟩,
  ⟨some 100, none, none, .objs [], .bin .neq false (.v 97) (.v 99)⟩])) <|
  .cond (.v 100) (.seq (.ops ([
    ⟨some 4, none, none, .objs [], .mv (.c (.sc (.bool false)))⟩])) <|
    .ret) (.nop)) <|
  .seq (.seq (.ops ([
  ⟨some 101, none, none, .objs [], .mv (.v 5)⟩,
  ⟨some 102, none, none, .objs [], .lenS (.v 101)⟩,
  ⟨some 103, none, none, .objs [], .mv (.c (.sc (.int .i64 0)))⟩])) <|
  .block 4 (.loop (some [6, 101, 102, 103]) il5l2)) <|
  .seq (.ops ([
  ⟨some 4, none, none, .objs [], .mv (.c (.sc (.bool true)))⟩])) <|
  .ret

theorem il5_eq : cFn Try.prog pol 5 = some ⟨123, il5c, [(4, none)]⟩ := by kernel_rfl

/-- isochron/isochronlaw39.SeqTurns -/
noncomputable def il6c : C :=
  .seq (.ops ([
  ⟨some 8, none, none, .objs [], .mv (.c (.sc (.bool false)))⟩])) <|
  .seq (.seq (.ops ([
  ⟨some 24, none, none, .objs [], .call (.c (.fn (.func 15) [] [])) []⟩,
  ⟨some 25, none, none, .objs [], .nt (.v 24)⟩])) <|
  .cond (.v 25) (.seq (.ops ([
    ⟨some 8, none, none, .objs [], .mv (.c (.sc (.bool false)))⟩])) <|
    .ret) (.nop)) <|
  .seq (.ops ([
  ⟨some 26, none, none, .objs [], .mv (.v 0)⟩,
  ⟨some 27, none, none, .objs [], .cv .i64 (.v 26)⟩,
  ⟨some 28, none, none, .objs [], .mv (.v 1)⟩,
  ⟨some 29, none, none, .objs [], .cv .i64 (.v 28)⟩,
  ⟨some 9, none, none, .objs [], .mv (.v 27)⟩,
  ⟨some 10, none, none, .objs [], .mv (.v 29)⟩])) <|
  .seq (.ops ([
  ⟨some 31, none, none, .objs [], .mv (.v 9)⟩,
  ⟨some 32, none, none, .objs [], .mv (.v 10)⟩,
  ⟨some 33, none, none, .objs [], .call (.c (.fn (.func 16) [] [])) [(.v 31), (.v 32)]⟩,
  ⟨some 30, none, none, .objs [], .mv (.v 33)⟩] ++ mkL [2, 3, 9, 10, 30] ([
  ⟨some 34, none, none, .objs [], .ex (.v 30) 0⟩,
  ⟨some 35, none, none, .objs [], .ex (.v 30) 1⟩,
  ⟨some 11, none, none, .objs [], .mv (.v 34)⟩,
  ⟨some 12, none, none, .objs [], .mv (.v 35)⟩]))) <|
  .seq (.ops ([
  ⟨some 37, none, none, .objs [], .mv (.v 9)⟩,
  ⟨some 38, none, none, .objs [], .mv (.v 11)⟩,
  ⟨some 39, none, none, .objs [], .call (.c (.fn (.func 17) [] [])) [(.v 37), (.v 38)]⟩,
  ⟨some 36, none, none, .objs [], .mv (.v 39)⟩,
  ⟨some 40, none, none, .objs [], .ex (.v 36) 0⟩,
  ⟨some 41, none, none, .objs [], .ex (.v 36) 1⟩,
  ⟨some 13, none, none, .objs [], .mv (.v 40)⟩,
  ⟨some 14, none, none, .objs [], .mv (.v 41)⟩])) <|
  .seq (.ops ([
  ⟨some 43, none, none, .objs [], .mv (.v 9)⟩,
  ⟨some 44, none, none, .objs [], .mv (.v 2)⟩] ++ mkL [2, 3, 9, 10, 11, 12, 13, 14, 43, 44] ([
  ⟨some 45, none, none, .objs [], .cv .i64 (.v 44)⟩,
  ⟨some 46, none, none, .objs [], .call (.c (.fn (.func 17) [] [])) [(.v 43), (.v 45)]⟩,
  ⟨some 42, none, none, .objs [], .mv (.v 46)⟩,
  ⟨some 47, none, none, .objs [], .ex (.v 42) 0⟩,
  ⟨some 48, none, none, .objs [], .ex (.v 42) 1⟩,
  ⟨some 15, none, none, .objs [], .mv (.v 47)⟩,
  ⟨some 16, none, none, .objs [], .mv (.v 48)⟩]))) <|
  .seq (.ops ([
  ⟨some 50, none, none, .objs [], .mv (.v 15)⟩,
  ⟨some 51, none, none, .objs [], .mv (.v 3)⟩,
  ⟨some 52, none, none, .objs [], .cv .i64 (.v 51)⟩,
  ⟨some 53, none, none, .objs [], .call (.c (.fn (.func 17) [] [])) [(.v 50), (.v 52)]⟩,
  ⟨some 49, none, none, .objs [], .mv (.v 53)⟩,
  ⟨some 54, none, none, .objs [], .ex (.v 49) 0⟩,
  ⟨some 55, none, none, .objs [], .ex (.v 49) 1⟩] ++ mkL [2, 3, 9, 10, 11, 12, 13, 14, 15, 16, 54, 55] ([
  ⟨some 17, none, none, .objs [], .mv (.v 54)⟩,
  ⟨some 18, none, none, .objs [], .mv (.v 55)⟩]))) <|
  .seq (.ops ([
  ⟨some 57, none, none, .objs [], .mv (.v 9)⟩,
  ⟨some 58, none, none, .objs [], .mv (.v 2)⟩,
  ⟨some 59, none, none, .objs [], .cv .i64 (.v 58)⟩,
  ⟨some 60, none, none, .objs [], .mv (.v 3)⟩,
  ⟨some 61, none, none, .objs [], .cv .i64 (.v 60)⟩,
  ⟨some 62, none, none, .objs [], .bin .add false (.v 59) (.v 61)⟩,
  ⟨some 63, none, none, .objs [], .call (.c (.fn (.func 17) [] [])) [(.v 57), (.v 62)]⟩,
  ⟨some 56, none, none, .objs [], .mv (.v 63)⟩,
  ⟨some 64, none, none, .objs [], .ex (.v 56) 0⟩,
  ⟨some 65, none, none, .objs [], .ex (.v 56) 1⟩,
  ⟨some 19, none, none, .objs [], .mv (.v 64)⟩,
  ⟨some 20, none, none, .objs [], .mv (.v 65)⟩])) <| mkC [2, 9, 10, 11, 12, 13, 14, 15, 16, 17, 18, 19, 20] <|
  .seq (.ops ([
  ⟨some 67, none, none, .objs [], .mv (.v 9)⟩,
  ⟨some 68, none, none, .objs [], .mv (.v 15)⟩,
  ⟨some 69, none, none, .objs [], .call (.c (.fn (.func 16) [] [])) [(.v 67), (.v 68)]⟩,
  ⟨some 66, none, none, .objs [], .mv (.v 69)⟩,
  ⟨some 70, none, none, .objs [], .ex (.v 66) 0⟩,
  ⟨some 71, none, none, .objs [], .ex (.v 66) 1⟩,
  ⟨some 21, none, none, .objs [], .mv (.v 70)⟩,
  ⟨some 22, none, none, .objs [], .mv (.v 71)⟩])) <|
  .seq (.ops ([
  ⟨some 72, none, none, .objs [], .mv (.v 12)⟩,
  ⟨some 73, none, none, .objs [], .bin .eql false (.v 72) (.c (.sc (.int .i64 0)))⟩,
  ⟨some 74, none, none, .objs [], .mv (.v 73)⟩,
  ⟨some 75, some (74, true), none, .objs [], .mv (.v 14)⟩,
  ⟨some 76, some (74, true), none, .objs [], .bin .eql false (.v 75) (.c (.sc (.int .i64 0)))⟩,
  ⟨some 77, none, none, .objs [], .pk (.v 74) (.v 76) (.c (.sc (.bool false)))⟩] ++ mkL [2, 9, 10, 11, 13, 16, 17, 18, 19, 20, 21, 22, 77] ([
  ⟨some 78, none, none, .objs [], .mv (.v 77)⟩,
  ⟨some 79, some (78, true), none, .objs [], .mv (.v 16)⟩,
  ⟨some 80, some (78, true), none, .objs [], .bin .eql false (.v 79) (.c (.sc (.int .i64 0)))⟩,
  ⟨some 81, none, none, .objs [], .pk (.v 78) (.v 80) (.c (.sc (.bool false)))⟩,
  ⟨some 82, none, none, .objs [], .mv (.v 81)⟩,
  ⟨some 83, some (82, true), none, .objs [], .mv (.v 18)⟩,
  ⟨some 84, some (82, true), none, .objs [], .bin .eql false (.v 83) (.c (.sc (.int .i64 0)))⟩,
  ⟨some 85, none, none, .objs [], .pk (.v 82) (.v 84) (.c (.sc (.bool false)))⟩,
  ⟨some 86, none, none, .objs [], .mv (.v 85)⟩,
  ⟨some 87, some (86, true), none, .objs [], .mv (.v 20)⟩,
  ⟨some 88, some (86, true), none, .objs [], .bin .eql false (.v 87) (.c (.sc (.int .i64 0)))⟩,
  ⟨some 89, none, none, .objs [], .pk (.v 86) (.v 88) (.c (.sc (.bool false)))⟩,
  ⟨some 90, none, none, .objs [], .mv (.v 89)⟩,
  ⟨some 91, some (90, true), none, .objs [], .mv (.v 22)⟩] ++ mkL [2, 9, 10, 11, 13, 17, 19, 21, 90, 91] ([
  ⟨some 92, some (90, true), none, .objs [], .bin .eql false (.v 91) (.c (.sc (.int .i64 0)))⟩,
  ⟨some 93, none, none, .objs [], .pk (.v 90) (.v 92) (.c (.sc (.bool false)))⟩,
  ⟨some 23, none, none, .objs [], .mv (.v 93)⟩])))) <|
  .seq (.ops ([
  ⟨some 94, none, none, .objs [], .mv (.v 23)⟩,
  ⟨some 95, none, none, .objs [], .mv (.v 94)⟩,
  ⟨some 96, some (95, true), none, .objs [], .mv (.v 13)⟩,
  ⟨some 97, some (95, true), none, .objs [], .mv (.v 10)⟩,
  ⟨some 98, some (95, true), none, .objs [], .bin .eql false (.v 96) (.v 97)⟩,
  ⟨some 99, none, none, .objs [], .pk (.v 95) (.v 98) (.c (.sc (.bool false)))⟩,
  ⟨some 100, none, none, .objs [], .mv (.v 99)⟩,
  ⟨some 101, some (100, true), none, .objs [], .mv (.v 11)⟩,
  ⟨some 102, some (100, true), none, .objs [], .bin .geq false (.v 101) (.c (.sc (.int .i64 (-32768))))⟩,
  ⟨some 103, none, none, .objs [], .pk (.v 100) (.v 102) (.c (.sc (.bool false)))⟩,
  ⟨some 104, none, none, .objs [], .mv (.v 103)⟩] ++ mkL [2, 9, 10, 11, 17, 19, 21, 104] ([
  ⟨some 105, some (104, true), none, .objs [], .mv (.v 11)⟩,
  ⟨some 106, some (104, true), none, .objs [], .bin .lss false (.v 105) (.c (.sc (.int .i64 32768)))⟩,
  ⟨some 107, none, none, .objs [], .pk (.v 104) (.v 106) (.c (.sc (.bool false)))⟩,
  ⟨some 108, none, none, .objs [], .mv (.v 107)⟩,
  ⟨some 109, some (108, true), none, .objs [], .mv (.v 11)⟩,
  ⟨some 110, some (108, true), none, .objs [], .bin .eql false (.v 109) (.c (.sc (.int .i64 0)))⟩,
  ⟨some 111, some (108, true), none, .objs [], .mv (.v 9)⟩,
  ⟨some 112, some (108, true), none, .objs [], .mv (.v 10)⟩,
  ⟨some 113, some (108, true), none, .objs [], .bin .eql false (.v 111) (.v 112)⟩,
  ⟨some 114, some (108, true), none, .objs [], .bin .eql true (.v 110) (.v 113)⟩,
  ⟨some 115, none, none, .objs [], .pk (.v 108) (.v 114) (.c (.sc (.bool false)))⟩,
  ⟨some 116, none, none, .objs [], .mv (.v 115)⟩,
  ⟨some 117, some (116, true), none, .objs [], .mv (.v 17)⟩,
  ⟨some 118, some (116, true), none, .objs [], .mv (.v 19)⟩] ++ mkL [2, 21, 116, 117, 118] ([
  ⟨some 119, some (116, true), none, .objs [], .bin .eql false (.v 117) (.v 118)⟩,
  ⟨some 120, none, none, .objs [], .pk (.v 116) (.v 119) (.c (.sc (.bool false)))⟩,
  ⟨some 121, none, none, .objs [], .mv (.v 120)⟩,
  ⟨some 122, some (121, true), none, .objs [], .mv (.v 21)⟩,
  ⟨some 123, some (121, true), none, .objs [], .mv (.v 2)⟩,
  ⟨some 124, some (121, true), none, .objs [], .cv .i64 (.v 123)⟩,
  ⟨some 125, some (121, true), none, .objs [], .bin .sub false (.v 122) (.v 124)⟩,
  ⟨some 126, some (121, true), none, .objs [], .bin .rem false (.v 125) (.c (.sc (.int .i64 65536)))⟩,
  ⟨some 127, some (121, true), none, .objs [], .bin .eql false (.v 126) (.c (.sc (.int .i64 0)))⟩,
  ⟨some 128, none, none, .objs [], .pk (.v 121) (.v 127) (.c (.sc (.bool false)))⟩,
  ⟨some 8, none, none, .objs [], .mv (.v 128)⟩])))) <|
  .ret

theorem il6_eq : cFn Try.prog pol 6 = some ⟨129, il6c, [(8, none)]⟩ := by kernel_rfl

noncomputable def il8l0 : C :=
  .seq (.ops ([
  ⟨some 75, none, none, .objs [], .bin .lss false (.v 74) (.c (.sc (.int .i64 3)))⟩])) <|
  .seq (.cond (.v 75) (.nop) (.exit 2)) <|
  .seq (.block 3 (.seq (.ops ([
    ⟨some 76, none, none, .objs [], .ixA false 1 3 1 (.v 73) (.v 74)⟩,
    ⟨some 16, none, none, .objs [], .mv (.v 76)⟩])) <|
    .seq (.ops ([
    ⟨some 78, none, none, .objs [], .mv (.v 14)⟩,
    ⟨some 79, none, none, .objs [], .mv (.v 16)⟩,
    ⟨some 80, none, none, .objs [], .call (.c (.fn (.func 24) [] [])) [(.v 78), (.v 79)]⟩,
    ⟨some 77, none, none, .objs [], .mv (.v 80)⟩,
    ⟨some 81, none, none, .objs [], .ex (.v 77) 0⟩,
    ⟨some 82, none, none, .objs [], .ex (.v 77) 1⟩,
    ⟨some 83, none, none, .objs [], .ex (.v 77) 2⟩,
    ⟨some 17, none, none, .objs [], .mv (.v 81)⟩,
    ⟨some 18, none, none, .objs [], .mv (.v 82)⟩,
    ⟨some 19, none, none, .objs [], .mv (.v 83)⟩])) <|
    .seq (.ops ([
    ⟨some 85, none, none, .objs [], .mv (.v 14)⟩] ++ mkL [2, 4, 8, 14, 16, 17, 18, 19, 47, 48, 73, 74, 85] ([
    ⟨some 86, none, none, .objs [], .mv (.v 16)⟩,
    ⟨some 87, none, none, .objs [], .call (.c (.fn (.func 28) [] [])) [(.v 85), (.v 86)]⟩,
    ⟨some 84, none, none, .objs [], .mv (.v 87)⟩,
    ⟨some 88, none, none, .objs [], .ex (.v 84) 0⟩,
    ⟨some 89, none, none, .objs [], .ex (.v 84) 1⟩,
    ⟨some 90, none, none, .objs [], .ex (.v 84) 2⟩,
    ⟨some 20, none, none, .objs [], .mv (.v 88)⟩,
    ⟨some 21, none, none, .objs [], .mv (.v 89)⟩,
    ⟨some 22, none, none, .objs [], .mv (.v 90)⟩]))) <|
    .seq (.ops ([
    ⟨some 91, none, none, .objs [], .mv (.v 17)⟩,
    ⟨some 92, none, none, .objs [], .mv (.v 20)⟩,
    ⟨some 93, none, none, .objs [], .call (.c (.fn (.func 29) [] [])) [(.v 91), (.v 92)]⟩,
    ⟨some 94, none, none, .objs [], .nt (.v 93)⟩,
    ⟨some 95, none, none, .objs [], .mv (.v 94)⟩] ++ mkL [2, 4, 8, 14, 18, 19, 21, 22, 47, 48, 73, 74, 95] ([
    ⟨some 96, some (95, false), none, .objs [], .mv (.v 18)⟩,
    ⟨some 97, some (95, false), none, .objs [], .mv (.v 21)⟩,
    ⟨some 98, some (95, false), none, .objs [], .bin .neq false (.v 96) (.v 97)⟩,
    ⟨some 99, none, none, .objs [], .pk (.v 95) (.c (.sc (.bool true))) (.v 98)⟩,
    ⟨some 100, none, none, .objs [], .mv (.v 99)⟩,
    ⟨some 101, some (100, false), none, .objs [], .mv (.v 19)⟩,
    ⟨some 102, some (100, false), none, .objs [], .mv (.v 22)⟩,
    ⟨some 103, some (100, false), none, .objs [], .bin .neq false (.v 101) (.v 102)⟩,
    ⟨some 104, none, none, .objs [], .pk (.v 100) (.c (.sc (.bool true))) (.v 103)⟩]))) <|
    .cond (.v 104) (.seq (.ops ([
      ⟨some 10, none, none, .objs [], .mv (.c (.sc (.bool false)))⟩])) <|
      .ret) (.nop))) <|
  .ops ([
  ⟨some 105, none, none, .objs [], .bin .add false (.v 74) (.c (.sc (.int .i64 1)))⟩,
  ⟨some 74, none, none, .objs [], .mv (.v 105)⟩])

noncomputable def il8l1 : C :=
  .seq (.ops ([
  ⟨some 49, none, none, .objs [], .bin .lss false (.v 48) (.c (.sc (.int .i64 3)))⟩])) <|
  .seq (.cond (.v 49) (.nop) (.exit 0)) <|
  .seq (.block 1 (.seq (.ops ([
    ⟨some 50, none, none, .objs [], .ixA false 1 3 1 (.v 47) (.v 48)⟩,
    ⟨some 14, none, none, .objs [], .mv (.v 50)⟩])) <|
    .seq (.seq (.ops ([
    ⟨some 51, none, none, .objs [], .mv (.v 14)⟩,
    ⟨some 52, none, none, .objs [], .call (.c (.fn (.func 27) [] [])) [(.v 51)]⟩,
    ⟨some 53, none, none, .objs [], .mv (.v 14)⟩,
    ⟨some 54, none, none, .objs [], .call (.c (.fn (.func 25) [] [])) [(.v 53)]⟩,
    ⟨some 55, none, none, .objs [], .bin .eql false (.v 54) (.c (.sc (.int .i64 0)))⟩,
    ⟨some 56, none, none, .objs [], .bin .neq true (.v 52) (.v 55)⟩,
    ⟨some 57, none, none, .objs [], .mv (.v 56)⟩,
    ⟨some 58, some (57, false), none, .objs [], .mv (.v 14)⟩,
    ⟨some 59, some (57, false), none, .objs [], .call (.c (.fn (.func 25) [] [])) [(.v 58)]⟩,
    ⟨some 60, some (57, false), none, .objs [], .bin .neq false (.v 59) (.c (.sc (.int .i64 0)))⟩,
    ⟨some 61, some (57, false), none, .objs [], .mv (.v 60)⟩] ++ mkL [2, 4, 8, 14, 47, 48, 57, 61] ([
    ⟨some 62, some (61, true), none, .objs [], .mv (.v 14)⟩,
    ⟨some 63, some (61, true), none, .objs [], .call (.c (.fn (.func 25) [] [])) [(.v 62)]⟩,
    ⟨some 64, some (61, true), none, .objs [], .bin .neq false (.v 63) (.c (.sc (.int .i64 490)))⟩,
    ⟨some 65, some (57, false), none, .objs [], .pk (.v 61) (.v 64) (.c (.sc (.bool false)))⟩,
    ⟨some 66, none, none, .objs [], .pk (.v 57) (.c (.sc (.bool true))) (.v 65)⟩]))) <|
    .cond (.v 66) (.seq (.ops ([
      ⟨some 10, none, none, .objs [], .mv (.c (.sc (.bool false)))⟩])) <|
      .ret) (.nop)) <|
    .seq (.ops ([
    ⟨some 67, none, none, .objs [], .mv (.v 4)⟩,
    ⟨some 68, none, none, .objs [], .fa 0 (.v 8)⟩,
    ⟨some 69, none, none, .objs [], .ld false 1 (.v 68)⟩,
    ⟨some 70, none, none, .objs [], .mv (.v 2)⟩,
    ⟨some 71, none, none, .objs [], .cv .i64 (.v 70)⟩,
    ⟨some 72, none, none, .objs [], .bin .add false (.c (.sc (.int .i64 1))) (.v 71)⟩,
    ⟨some 73, none, none, .objs [], .bd [(.sc (.int .i64 0)), (.sc (.int .i64 0)), (.sc (.int .i64 0))] [(0, 1, (.v 67)), (1, 1, (.v 69)), (2, 1, (.v 72))]⟩,
    ⟨some 74, none, none, .objs [], .mv (.c (.sc (.int .i64 0)))⟩])) <| mkC [2, 4, 8, 14, 47, 48, 73, 74] <|
    .block 2 (.loop (some [2, 4, 8, 14, 47, 48, 73, 74]) il8l0))) <|
  .ops ([
  ⟨some 106, none, none, .objs [], .bin .add false (.v 48) (.c (.sc (.int .i64 1)))⟩,
  ⟨some 48, none, none, .objs [], .mv (.v 106)⟩])

/-- isochron/isochronlaw39.SeqNexts -/
noncomputable def il8c : C :=
  .seq (.ops ([
  ⟨some 8, none, none, .objs [], .bx false (.v 3)⟩,
  ⟨some 10, none, none, .objs [], .mv (.c (.sc (.bool false)))⟩])) <|
  .seq (.seq (.ops ([
  ⟨some 23, none, none, .objs [], .call (.c (.fn (.func 15) [] [])) []⟩,
  ⟨some 24, none, none, .objs [], .nt (.v 23)⟩])) <|
  .cond (.v 24) (.seq (.ops ([
    ⟨some 10, none, none, .objs [], .mv (.c (.sc (.bool false)))⟩])) <|
    .ret) (.nop)) <|
  .seq (.ops ([
  ⟨some 25, none, none, .objs [], .mv (.v 1)⟩,
  ⟨some 26, none, none, .objs [], .call (.c (.fn (.func 23) [] [])) [(.v 25)]⟩,
  ⟨some 11, none, none, .objs [], .mv (.v 26)⟩])) <|
  .seq (.ops ([
  ⟨some 27, none, none, .objs [], .mv (.v 11)⟩,
  ⟨some 28, none, none, .objs [], .call (.c (.fn (.func 26) [] [])) [(.v 27)]⟩,
  ⟨some 12, none, none, .objs [], .mv (.v 28)⟩])) <|
  .seq (.seq (.ops ([
  ⟨some 29, none, none, .objs [], .mv (.v 12)⟩,
  ⟨some 30, none, none, .objs [], .lenS (.v 29)⟩,
  ⟨some 31, none, none, .objs [], .bin .gtr false (.v 30) (.c (.sc (.int .i64 0)))⟩])) <| mkC [0, 2, 4, 8, 11, 12, 31] <|
  .cond (.v 31) (.opsD [] ([
    ⟨some 32, none, none, .objs [], .mv (.v 12)⟩,
    ⟨some 33, none, none, .objs [], .mv (.v 2)⟩,
    ⟨some 34, none, none, .objs [], .cv .i64 (.v 33)⟩,
    ⟨some 35, none, none, .objs [], .mv (.v 12)⟩,
    ⟨some 36, none, none, .objs [(.v 35)], .lenS (.v 35)⟩,
    ⟨some 37, none, none, .objs [], .bin .rem false (.v 34) (.v 36)⟩,
    ⟨some 38, none, none, .objs [(.v 8)], .ld true 2 (.v 8)⟩,
    ⟨some 39, none, none, .objs [], .iaS 2 (.v 32) (.v 37)⟩,
    ⟨none, none, none, .objs [(.v 39)], .st 2 (.v 39) (.v 38)⟩])) (.nop)) <|
  .seq (.seq (.ops ([
  ⟨some 40, none, none, .objs [], .mv (.v 0)⟩,
  ⟨some 41, none, none, .objs [], .mv (.v 0)⟩,
  ⟨some 42, none, none, .objs [], .lenS (.v 41)⟩,
  ⟨some 43, none, none, .objs [], .mnx false (.v 42) (.c (.sc (.int .i64 14)))⟩,
  ⟨some 44, none, none, .objs [], .sl 2 (.v 40) none (some (.v 43)) none⟩] ++ mkL [2, 4, 8, 11, 12, 44] ([
  ⟨some 45, none, none, .objs [], .mv (.v 11)⟩,
  ⟨some 46, none, none, .objs [], .mv (.v 12)⟩,
  ⟨some 47, none, none, .objs [], .bd [(.sc (.slice none 0 0)), (.sc (.slice none 0 0)), (.sc (.slice none 0 0))] [(0, 1, (.v 44)), (1, 1, (.v 45)), (2, 1, (.v 46))]⟩,
  ⟨some 48, none, none, .objs [], .mv (.c (.sc (.int .i64 0)))⟩]))) <|
  .block 0 (.loop (some [2, 4, 8, 47, 48]) il8l1)) <|
  .seq (.ops ([
  ⟨some 10, none, none, .objs [], .mv (.c (.sc (.bool true)))⟩])) <|
  .ret

theorem il8_eq : cFn Try.prog pol 8 = some ⟨107, il8c, [(10, none)]⟩ := by kernel_rfl

/-- isochron/seq.Delta -/
noncomputable def il16c : C :=
  .seq (.ops ([
  ⟨some 4, none, none, .objs [], .mv (.c (.sc (.int .i64 0)))⟩,
  ⟨some 5, none, none, .objs [], .mv (.c (.sc (.int .i64 0)))⟩])) <|
  .seq (.seq (.ops ([
  ⟨some 6, none, none, .objs [], .mv (.v 0)⟩,
  ⟨some 7, none, none, .objs [], .call (.c (.fn (.func 41) [] [])) [(.v 6)]⟩,
  ⟨some 8, none, none, .objs [], .nt (.v 7)⟩,
  ⟨some 9, none, none, .objs [], .mv (.v 8)⟩,
  ⟨some 10, some (9, false), none, .objs [], .mv (.v 1)⟩,
  ⟨some 11, some (9, false), none, .objs [], .call (.c (.fn (.func 41) [] [])) [(.v 10)]⟩,
  ⟨some 12, some (9, false), none, .objs [], .nt (.v 11)⟩,
  ⟨some 13, none, none, .objs [], .pk (.v 9) (.c (.sc (.bool true))) (.v 12)⟩])) <|
  .cond (.v 13) (.seq (.ops ([
    ⟨some 4, none, none, .objs [], .mv (.c (.sc (.int .i64 0)))⟩,
    ⟨some 5, none, none, .objs [], .mv (.c (.sc (.int .i64 2)))⟩])) <|
    .ret) (.nop)) <|
  .seq (.ops ([
  ⟨some 14, none, none, .objs [], .mv (.v 1)⟩,
  ⟨some 15, none, none, .objs [], .mv (.v 0)⟩] ++ mkL [14, 15] ([
  ⟨some 16, none, none, .objs [], .bin .sub false (.v 14) (.v 15)⟩,
  ⟨some 17, none, none, .objs [], .bin .add false (.v 16) (.c (.sc (.int .i64 32768)))⟩,
  ⟨some 18, none, none, .objs [], .call (.c (.fn (.func 42) [] [])) [(.v 17)]⟩,
  ⟨some 19, none, none, .objs [], .bin .sub false (.v 18) (.c (.sc (.int .i64 32768)))⟩,
  ⟨some 4, none, none, .objs [], .mv (.v 19)⟩,
  ⟨some 5, none, none, .objs [], .mv (.c (.sc (.int .i64 0)))⟩]))) <|
  .ret

theorem il16_eq : cFn Try.prog pol 16 = some ⟨20, il16c, [(4, none), (5, none)]⟩ := by kernel_rfl

/-- isochron/seq.After -/
noncomputable def il17c : C :=
  .seq (.ops ([
  ⟨some 4, none, none, .objs [], .mv (.c (.sc (.int .i64 0)))⟩,
  ⟨some 5, none, none, .objs [], .mv (.c (.sc (.int .i64 0)))⟩])) <|
  .seq (.seq (.ops ([
  ⟨some 6, none, none, .objs [], .mv (.v 0)⟩,
  ⟨some 7, none, none, .objs [], .call (.c (.fn (.func 41) [] [])) [(.v 6)]⟩,
  ⟨some 8, none, none, .objs [], .nt (.v 7)⟩])) <|
  .cond (.v 8) (.seq (.ops ([
    ⟨some 4, none, none, .objs [], .mv (.c (.sc (.int .i64 0)))⟩,
    ⟨some 5, none, none, .objs [], .mv (.c (.sc (.int .i64 2)))⟩])) <|
    .ret) (.nop)) <|
  .seq (.ops ([
  ⟨some 9, none, none, .objs [], .mv (.v 0)⟩,
  ⟨some 10, none, none, .objs [], .mv (.v 1)⟩,
  ⟨some 11, none, none, .objs [], .call (.c (.fn (.func 42) [] [])) [(.v 10)]⟩,
  ⟨some 12, none, none, .objs [], .bin .add false (.v 9) (.v 11)⟩,
  ⟨some 13, none, none, .objs [], .call (.c (.fn (.func 42) [] [])) [(.v 12)]⟩,
  ⟨some 4, none, none, .objs [], .mv (.v 13)⟩,
  ⟨some 5, none, none, .objs [], .mv (.c (.sc (.int .i64 0)))⟩])) <|
  .ret

theorem il17_eq : cFn Try.prog pol 17 = some ⟨14, il17c, [(4, none), (5, none)]⟩ := by kernel_rfl

noncomputable def il18l0 : C :=
  .seq (.seq (.ops ([
  ⟨some 6, none, none, .objs [], .mv (.v 5)⟩,
  ⟨some 7, none, none, .objs [], .bin .lss false (.v 6) (.c (.sc (.int .i64 32768)))⟩])) <|
  .cond (.v 7) (.nop) (.exit 0)) <|
  .seq (.block 1 (.seq (.ops ([
    ⟨some 10, none, none, .objs [], .mv (.v 0)⟩,
    ⟨some 11, none, none, .objs [], .mv (.v 5)⟩,
    ⟨some 12, none, none, .objs [], .call (.c (.fn (.func 19) [] [])) [(.v 10), (.v 11)]⟩,
    ⟨some 13, none, none, .objs [], .mv (.v 1)⟩,
    ⟨some 14, none, none, .objs [], .bin .eql false (.v 12) (.v 13)⟩])) <|
    .cond (.v 14) (.seq (.ops ([
      ⟨some 15, none, none, .objs [], .mv (.v 5)⟩,
      ⟨some 4, none, none, .objs [], .mv (.v 15)⟩])) <|
      .ret) (.nop))) <|
  .ops ([
  ⟨some 8, none, none, .objs [], .mv (.v 5)⟩,
  ⟨some 9, none, none, .objs [], .bin .add false (.v 8) (.c (.sc (.int .i64 1)))⟩,
  ⟨some 5, none, none, .objs [], .mv (.v 9)⟩])

/-- isochron/isochronref39.Delta -/
noncomputable def il18c : C :=
  .seq (.ops ([
  ⟨some 4, none, none, .objs [], .mv (.c (.sc (.int .i64 0)))⟩])) <|
  .seq (.seq (.ops ([
  ⟨some 5, none, none, .objs [], .mv (.c (.sc (.int .i64 (-32768))))⟩])) <|
  .block 0 (.loop (some [0, 1, 5]) il18l0)) <|
  .seq (.ops ([
  ⟨some 4, none, none, .objs [], .mv (.c (.sc (.int .i64 0)))⟩])) <|
  .ret

theorem il18_eq : cFn Try.prog pol 18 = some ⟨16, il18c, [(4, none)]⟩ := by kernel_rfl

/-- isochron/isochronref39.After -/
noncomputable def il19c : C :=
  .seq (.ops ([
  ⟨some 4, none, none, .objs [], .mv (.c (.sc (.int .i64 0)))⟩])) <|
  .seq (.ops ([
  ⟨some 6, none, none, .objs [], .mv (.v 0)⟩,
  ⟨some 7, none, none, .objs [], .mv (.v 1)⟩,
  ⟨some 8, none, none, .objs [], .bin .rem false (.v 7) (.c (.sc (.int .i64 65536)))⟩,
  ⟨some 9, none, none, .objs [], .bin .add false (.v 6) (.v 8)⟩,
  ⟨some 10, none, none, .objs [], .bin .rem false (.v 9) (.c (.sc (.int .i64 65536)))⟩,
  ⟨some 5, none, none, .objs [], .mv (.v 10)⟩])) <|
  .seq (.seq (.ops ([
  ⟨some 11, none, none, .objs [], .mv (.v 5)⟩,
  ⟨some 12, none, none, .objs [], .bin .lss false (.v 11) (.c (.sc (.int .i64 0)))⟩])) <|
  .cond (.v 12) (.ops ([
    ⟨some 13, none, none, .objs [], .mv (.v 5)⟩,
    ⟨some 14, none, none, .objs [], .bin .add false (.v 13) (.c (.sc (.int .i64 65536)))⟩,
    ⟨some 5, none, none, .objs [], .mv (.v 14)⟩])) (.nop)) <|
  .seq (.ops ([
  ⟨some 15, none, none, .objs [], .mv (.v 5)⟩,
  ⟨some 4, none, none, .objs [], .mv (.v 15)⟩])) <|
  .ret

theorem il19_eq : cFn Try.prog pol 19 = some ⟨16, il19c, [(4, none)]⟩ := by kernel_rfl

/-- isochron/isochronref39.Number -/
noncomputable def il20c : C :=
  .seq (.ops ([
  ⟨some 2, none, none, .objs [], .mv (.c (.sc (.bool false)))⟩])) <|
  .seq (.ops ([
  ⟨some 3, none, none, .objs [], .mv (.v 0)⟩,
  ⟨some 4, none, none, .objs [], .bin .geq false (.v 3) (.c (.sc (.int .i64 0)))⟩,
  ⟨some 5, none, none, .objs [], .mv (.v 4)⟩,
  ⟨some 6, some (5, true), none, .objs [], .mv (.v 0)⟩,
  ⟨some 7, some (5, true), none, .objs [], .bin .leq false (.v 6) (.c (.sc (.int .i64 65535)))⟩,
  ⟨some 8, none, none, .objs [], .pk (.v 5) (.v 7) (.c (.sc (.bool false)))⟩,
  ⟨some 2, none, none, .objs [], .mv (.v 8)⟩])) <|
  .ret

theorem il20_eq : cFn Try.prog pol 20 = some ⟨9, il20c, [(2, none)]⟩ := by kernel_rfl

/-- isochron/seq.Copies -/
noncomputable def il21c : C :=
  .seq (.ops ([
  ⟨some 2, none, none, .objs [], .bx false (.v 0)⟩,
  ⟨some 4, none, none, .objs [], .mv (.c (.sc (.slice none 0 0)))⟩,
  ⟨some 5, none, none, .objs [], .mv (.c (.sc (.int .i64 0)))⟩])) <|
  .seq (.seq (.ops ([
  ⟨some 8, none, none, .objs [], .fa 0 (.v 2)⟩,
  ⟨some 9, none, none, .objs [], .ld false 1 (.v 8)⟩,
  ⟨some 10, none, none, .objs [], .call (.c (.fn (.func 43) [] [])) [(.v 9)]⟩,
  ⟨some 11, none, none, .objs [], .nt (.v 10)⟩,
  ⟨some 12, none, none, .objs [], .mv (.v 11)⟩,
  ⟨some 13, some (12, false), none, .objs [], .fa 1 (.v 2)⟩,
  ⟨some 14, some (12, false), none, .objs [], .ld false 1 (.v 13)⟩,
  ⟨some 15, some (12, false), none, .objs [], .call (.c (.fn (.func 41) [] [])) [(.v 14)]⟩,
  ⟨some 16, some (12, false), none, .objs [], .nt (.v 15)⟩,
  ⟨some 17, none, none, .objs [], .pk (.v 12) (.c (.sc (.bool true))) (.v 16)⟩,
  ⟨some 18, none, none, .objs [], .mv (.v 17)⟩] ++ mkL [1, 2, 4, 5, 18] ([
  ⟨some 19, some (18, false), none, .objs [], .mv (.v 1)⟩,
  ⟨some 20, some (18, false), none, .objs [], .lenS (.v 19)⟩,
  ⟨some 21, some (18, false), none, .objs [], .bin .eql false (.v 20) (.c (.sc (.int .i64 0)))⟩,
  ⟨some 22, none, none, .objs [], .pk (.v 18) (.c (.sc (.bool true))) (.v 21)⟩,
  ⟨some 23, none, none, .objs [], .mv (.v 22)⟩,
  ⟨some 24, some (23, false), none, .objs [], .mv (.v 1)⟩,
  ⟨some 25, some (23, false), none, .objs [], .lenS (.v 24)⟩,
  ⟨some 26, some (23, false), none, .objs [], .bin .gtr false (.v 25) (.c (.sc (.int .i64 2)))⟩,
  ⟨some 27, none, none, .objs [], .pk (.v 23) (.c (.sc (.bool true))) (.v 26)⟩]))) <|
  .cond (.v 27) (.seq (.ops ([
    ⟨some 4, none, none, .objs [], .mv (.c (.sc (.slice none 0 0)))⟩,
    ⟨some 5, none, none, .objs [], .mv (.c (.sc (.int .i64 2)))⟩])) <|
    .ret) (.nop)) <|
  .seq (.ops ([
  ⟨some 6, none, none, .objs [], .nwG 6⟩])) <|
  .seq (.seq (.ops ([
  ⟨some 28, none, none, .objs [], .ld true 5 (.v 2)⟩,
  ⟨some 29, none, none, .objs [], .mv (.v 1)⟩] ++ mkL [4, 5, 6, 28, 29] ([
  ⟨some 30, none, none, .objs [], .call (.c (.fn (.func 44) [] [])) [(.v 28), (.v 29)]⟩]))) <|
  .block 0 (.rangeF 37 (some [6]) (.v 30) [31] (rfOf Try.prog 21 0).1 (rfOf Try.prog 21 0).2)) <|
  .seq (.ops ([
  ⟨some 36, none, none, .objs [], .ld false 1 (.v 6)⟩,
  ⟨some 4, none, none, .objs [], .mv (.v 36)⟩,
  ⟨some 5, none, none, .objs [], .mv (.c (.sc (.int .i64 0)))⟩])) <|
  .ret

theorem il21_eq : cFn Try.prog pol 21 = some ⟨37, il21c, [(4, none), (5, none)]⟩ := by kernel_rfl

noncomputable def il22l0 : C :=
  .seq (.ops ([
  ⟨some 14, none, none, .objs [], .bin .lss false (.v 13) (.v 12)⟩])) <|
  .seq (.cond (.v 14) (.nop) (.exit 0)) <|
  .seq (.block 1 (.seq (.ops ([
    ⟨some 15, none, none, .objs [], .mv (.v 13)⟩,
    ⟨some 5, none, none, .objs [], .mv (.v 15)⟩])) <|
    .seq (.opsD [] ([
    ⟨some 16, none, none, .objs [], .mv (.v 0)⟩,
    ⟨some 17, none, none, .objs [], .mv (.v 5)⟩,
    ⟨some 18, none, none, .objs [], .iaS 1 (.v 16) (.v 17)⟩,
    ⟨some 19, none, none, .objs [(.v 18)], .ld false 1 (.v 18)⟩,
    ⟨some 20, none, none, .objs [], .mv (.v 1)⟩,
    ⟨some 21, none, none, .objs [], .mv (.v 5)⟩,
    ⟨some 22, none, none, .objs [], .iaS 1 (.v 20) (.v 21)⟩,
    ⟨some 23, none, none, .objs [(.v 22)], .ld false 1 (.v 22)⟩,
    ⟨some 24, none, none, .objs [], .bin .neq false (.v 19) (.v 23)⟩])) <|
    .cond (.v 24) (.seq (.ops ([
      ⟨some 4, none, none, .objs [], .mv (.c (.sc (.bool false)))⟩])) <|
      .ret) (.nop))) <|
  .ops ([
  ⟨some 25, none, none, .objs [], .bin .add false (.v 13) (.c (.sc (.int .i64 1)))⟩] ++ mkL [0, 1, 12, 25] ([
  ⟨some 13, none, none, .objs [], .mv (.v 25)⟩]))

/-- slices.Equal[isochron/api.Route,int] -/
noncomputable def il22c : C :=
  .seq (.ops ([
  ⟨some 4, none, none, .objs [], .mv (.c (.sc (.bool false)))⟩])) <|
  .seq (.seq (.ops ([
  ⟨some 6, none, none, .objs [], .mv (.v 0)⟩,
  ⟨some 7, none, none, .objs [], .lenS (.v 6)⟩,
  ⟨some 8, none, none, .objs [], .mv (.v 1)⟩,
  ⟨some 9, none, none, .objs [], .lenS (.v 8)⟩,
  ⟨some 10, none, none, .objs [], .bin .neq false (.v 7) (.v 9)⟩])) <|
  .cond (.v 10) (.seq (.ops ([
    ⟨some 4, none, none, .objs [], .mv (.c (.sc (.bool false)))⟩])) <|
    .ret) (.nop)) <|
  .seq (.seq (.ops ([
  ⟨some 11, none, none, .objs [], .mv (.v 0)⟩,
  ⟨some 12, none, none, .objs [], .lenS (.v 11)⟩,
  ⟨some 13, none, none, .objs [], .mv (.c (.sc (.int .i64 0)))⟩])) <|
  .block 0 (.loop (some [0, 1, 12, 13]) il22l0)) <|
  .seq (.ops ([
  ⟨some 4, none, none, .objs [], .mv (.c (.sc (.bool true)))⟩])) <|
  .ret

theorem il22_eq : cFn Try.prog pol 22 = some ⟨26, il22c, [(4, none)]⟩ := by kernel_rfl

noncomputable def il23l0 : C :=
  .seq (.seq (.ops ([
  ⟨some 6, none, none, .objs [], .mv (.v 5)⟩,
  ⟨some 7, none, none, .objs [], .mv (.v 0)⟩,
  ⟨some 8, none, none, .objs [], .lenS (.v 7)⟩,
  ⟨some 9, none, none, .objs [], .bin .lss false (.v 6) (.v 8)⟩,
  ⟨some 10, none, none, .objs [], .mv (.v 9)⟩,
  ⟨some 11, some (10, true), none, .objs [], .mv (.v 5)⟩,
  ⟨some 12, some (10, true), none, .objs [], .bin .lss false (.v 11) (.c (.sc (.int .i64 12)))⟩,
  ⟨some 13, none, none, .objs [], .pk (.v 10) (.v 12) (.c (.sc (.bool false)))⟩])) <|
  .cond (.v 13) (.nop) (.exit 0)) <|
  .seq (.block 1 (.seq (.ops ([
    ⟨some 16, none, none, .objs [], .mv (.v 4)⟩,
    ⟨some 17, none, none, .objs [], .bin .add false (.v 16) (.c (.sc (.int .i64 1)))⟩,
    ⟨some 18, none, none, .objs [], .mv (.v 0)⟩,
    ⟨some 19, none, none, .objs [], .mv (.v 5)⟩,
    ⟨some 20, none, none, .objs [], .iaS 2 (.v 18) (.v 19)⟩,
    ⟨some 21, none, none, .objs [], .iaA 2 1 (.v 20) (.c (.sc (.int .i64 0)))⟩] ++ mkL [0, 3, 5, 17, 21] ([
    ⟨some 22, none, none, .objs [], .ld false 1 (.v 21)⟩,
    ⟨some 23, none, none, .objs [], .bin .rem false (.v 22) (.c (.sc (.int .u16 300)))⟩,
    ⟨some 24, none, none, .objs [], .cv .i64 (.v 23)⟩,
    ⟨some 25, none, none, .objs [], .bin .add false (.v 17) (.v 24)⟩,
    ⟨some 4, none, none, .objs [], .mv (.v 25)⟩]))) <|
    .ops ([
    ⟨some 26, none, none, .objs [], .mv (.v 3)⟩,
    ⟨some 27, none, none, .objs [], .mv (.v 4)⟩,
    ⟨some 28, none, none, .objs [], .mv (.v 0)⟩,
    ⟨some 29, none, none, .objs [], .mv (.v 5)⟩,
    ⟨some 30, none, none, .objs [], .iaS 2 (.v 28) (.v 29)⟩,
    ⟨some 31, none, none, .objs [], .iaA 2 1 (.v 30) (.c (.sc (.int .i64 1)))⟩,
    ⟨some 32, none, none, .objs [], .ld false 1 (.v 31)⟩,
    ⟨some 33, none, none, .objs [], .cv .i64 (.v 32)⟩,
    ⟨some 34, none, none, .objs [], .bd [(.sc (.int .i64 0)), (.sc (.int .i64 0))] [(0, 1, (.v 27)), (1, 1, (.v 33))]⟩] ++ mkL [0, 4, 5, 26, 34] ([
    ⟨some 35, none, none, .objs [], .bs false 2 (.agg [(.sc (.int .i64 0)), (.sc (.int .i64 0))]) 1 [(0, (.v 34))]⟩,
    ⟨some 36, none, none, .objs [], .app 2 16 (.v 26) (.v 35)⟩,
    ⟨some 3, none, none, .objs [], .gmv 2 (.v 36)⟩])))) <|
  .ops ([
  ⟨some 14, none, none, .objs [], .mv (.v 5)⟩,
  ⟨some 15, none, none, .objs [], .bin .add false (.v 14) (.c (.sc (.int .i64 1)))⟩,
  ⟨some 5, none, none, .objs [], .mv (.v 15)⟩])

/-- (isochron/isochronref39.Draft).List -/
noncomputable def il23c : C :=
  .seq (.ops ([
  ⟨some 2, none, none, .objs [], .mv (.c (.sc (.slice none 0 0)))⟩])) <|
  .seq (.ops ([
  ⟨some 3, none, none, .objs [], .gmv 2 (.c (.sc (.slice none 0 0)))⟩])) <|
  .seq (.ops ([
  ⟨some 4, none, none, .objs [], .mv (.c (.sc (.int .i64 0)))⟩])) <|
  .seq (.seq (.ops ([
  ⟨some 5, none, none, .objs [], .mv (.c (.sc (.int .i64 0)))⟩])) <|
  .block 0 (.loop (some [0, 3, 4, 5]) il23l0)) <|
  .seq (.ops ([
  ⟨some 37, none, none, .objs [], .mv (.v 3)⟩,
  ⟨some 2, none, none, .objs [], .mv (.v 37)⟩])) <|
  .ret

theorem il23_eq : cFn Try.prog pol 23 = some ⟨38, il23c, [(2, none)]⟩ := by kernel_rfl

/-- isochron/seq.Next -/
noncomputable def il24c : C :=
  .seq (.ops ([
  ⟨some 3, none, none, .objs [], .bx false (.v 1)⟩,
  ⟨some 4, none, none, .objs [], .mv (.c (.sc (.slice none 0 0)))⟩,
  ⟨some 5, none, none, .objs [], .mv (.c (.sc (.int .i64 0)))⟩,
  ⟨some 6, none, none, .objs [], .mv (.c (.sc (.int .i64 0)))⟩])) <|
  .seq (.seq (.ops ([
  ⟨some 12, none, none, .objs [], .mv (.v 0)⟩,
  ⟨some 13, none, none, .objs [], .call (.c (.fn (.func 25) [] [])) [(.v 12)]⟩,
  ⟨some 7, none, none, .objs [], .mv (.v 13)⟩])) <|
  .seq (.ops ([
  ⟨some 14, none, none, .objs [], .mv (.v 7)⟩,
  ⟨some 15, none, none, .objs [], .bin .neq false (.v 14) (.c (.sc (.int .i64 0)))⟩])) <|
  .cond (.v 15) (.seq (.ops ([
    ⟨some 16, none, none, .objs [], .mv (.v 7)⟩,
    ⟨some 4, none, none, .objs [], .mv (.c (.sc (.slice none 0 0)))⟩,
    ⟨some 5, none, none, .objs [], .mv (.c (.sc (.int .i64 0)))⟩,
    ⟨some 6, none, none, .objs [], .mv (.v 16)⟩])) <|
    .ret) (.nop)) <|
  .seq (.seq (.ops ([
  ⟨some 17, none, none, .objs [], .ld false 1 (.v 3)⟩] ++ mkL [0, 3, 17] ([
  ⟨some 18, none, none, .objs [], .call (.c (.fn (.func 43) [] [])) [(.v 17)]⟩,
  ⟨some 19, none, none, .objs [], .nt (.v 18)⟩]))) <|
  .cond (.v 19) (.seq (.ops ([
    ⟨some 4, none, none, .objs [], .mv (.c (.sc (.slice none 0 0)))⟩,
    ⟨some 5, none, none, .objs [], .mv (.c (.sc (.int .i64 0)))⟩,
    ⟨some 6, none, none, .objs [], .mv (.c (.sc (.int .i64 2)))⟩])) <|
    .ret) (.nop)) <|
  .seq (.ops ([
  ⟨some 20, none, none, .objs [], .mv (.v 0)⟩,
  ⟨some 21, none, none, .objs [], .fn 46 [] [(.v 3)]⟩,
  ⟨some 22, none, none, .objs [], .call (.c (.fn (.func 45) [] [])) [(.v 20), (.v 21)]⟩,
  ⟨some 8, none, none, .objs [], .mv (.v 22)⟩])) <|
  .seq (.opsD [] ([
  ⟨some 23, none, none, .objs [], .mv (.v 0)⟩,
  ⟨some 24, none, none, .objs [], .mv (.v 8)⟩,
  ⟨some 25, none, none, .objs [], .sl 2 (.v 23) (some (.v 24)) none none⟩,
  ⟨some 9, none, none, .objs [], .mv (.c (.sc (.int .i64 0)))⟩,
  ⟨some 10, none, none, .objs [], .mv (.v 25)⟩])) <| mkC [0, 3, 8, 9, 10] <|
  .seq (.seq (.opsD [] ([
  ⟨some 26, none, none, .objs [], .mv (.v 8)⟩,
  ⟨some 27, none, none, .objs [], .mv (.v 0)⟩,
  ⟨some 28, none, none, .objs [(.v 27)], .lenS (.v 27)⟩,
  ⟨some 29, none, none, .objs [], .bin .lss false (.v 26) (.v 28)⟩,
  ⟨some 30, none, none, .objs [], .mv (.v 29)⟩,
  ⟨some 31, some (30, true), none, .objs [], .mv (.v 0)⟩,
  ⟨some 32, some (30, true), none, .objs [], .mv (.v 8)⟩,
  ⟨some 33, some (30, true), none, .objs [], .iaS 2 (.v 31) (.v 32)⟩,
  ⟨some 34, some (30, true), none, .objs [], .fa 0 (.v 33)⟩,
  ⟨some 35, some (30, true), none, .objs [(.v 34)], .ld false 1 (.v 34)⟩,
  ⟨some 36, some (30, true), none, .objs [(.v 3)], .ld false 1 (.v 3)⟩,
  ⟨some 37, some (30, true), none, .objs [], .bin .eql false (.v 35) (.v 36)⟩,
  ⟨some 38, none, none, .objs [], .pk (.v 30) (.v 37) (.c (.sc (.bool false)))⟩])) <|
  .cond (.v 38) (.opsD [] ([
    ⟨some 39, none, none, .objs [], .mv (.v 0)⟩] ++ mkL [0, 3, 8, 39] ([
    ⟨some 40, none, none, .objs [], .mv (.v 8)⟩,
    ⟨some 41, none, none, .objs [], .iaS 2 (.v 39) (.v 40)⟩,
    ⟨some 42, none, none, .objs [], .fa 1 (.v 41)⟩,
    ⟨some 43, none, none, .objs [(.v 42)], .ld false 1 (.v 42)⟩,
    ⟨some 44, none, none, .objs [], .mv (.v 0)⟩,
    ⟨some 45, none, none, .objs [], .mv (.v 8)⟩,
    ⟨some 46, none, none, .objs [], .bin .add false (.v 45) (.c (.sc (.int .i64 1)))⟩,
    ⟨some 47, none, none, .objs [], .sl 2 (.v 44) (some (.v 46)) none none⟩,
    ⟨some 9, none, none, .objs [], .mv (.v 43)⟩,
    ⟨some 10, none, none, .objs [], .mv (.v 47)⟩]))) (.seq (.ops ([
    ⟨some 48, none, none, .objs [], .mv (.v 0)⟩] ++ mkL [0, 3, 8, 9, 10, 48] ([
    ⟨some 49, none, none, .objs [], .lenS (.v 48)⟩,
    ⟨some 50, none, none, .objs [], .bin .eql false (.v 49) (.c (.sc (.int .i64 12)))⟩]))) <|
    .cond (.v 50) (.seq (.ops ([
      ⟨some 4, none, none, .objs [], .mv (.c (.sc (.slice none 0 0)))⟩,
      ⟨some 5, none, none, .objs [], .mv (.c (.sc (.int .i64 0)))⟩,
      ⟨some 6, none, none, .objs [], .mv (.c (.sc (.int .i64 7)))⟩])) <|
      .ret) (.nop))) <|
  .seq (.opsD [(4, 7)] ([
  ⟨some 51, none, none, .objs [], .mv (.v 0)⟩,
  ⟨some 52, none, none, .objs [], .mv (.v 8)⟩,
  ⟨some 53, none, none, .objs [], .mv (.v 8)⟩,
  ⟨some 54, none, none, .objs [], .sl 2 (.v 51) none (some (.v 52)) (some (.v 53))⟩] ++ mkL [3, 9, 10, 54] ([
  ⟨some 55, none, none, .objs [(.v 3)], .ld false 1 (.v 3)⟩,
  ⟨some 56, none, none, .objs [], .mv (.v 9)⟩,
  ⟨some 57, none, none, .objs [], .bin .add false (.v 56) (.c (.sc (.int .i64 1)))⟩,
  ⟨some 58, none, none, .cal (.c (.fn (.func 42) [] [])) [(.v 57)], .call (.c (.fn (.func 42) [] [])) [(.v 57)]⟩,
  ⟨some 59, none, none, .objs [], .bd [(.sc (.int .i64 0)), (.sc (.int .i64 0))] [(0, 1, (.v 55)), (1, 1, (.v 58))]⟩,
  ⟨some 60, none, none, .objs [], .bs false 2 (.agg [(.sc (.int .i64 0)), (.sc (.int .i64 0))]) 1 [(0, (.v 59))]⟩,
  ⟨some 61, none, none, .objs [(.v 54), (.v 60)], .app 2 16 (.v 54) (.v 60)⟩,
  ⟨some 11, none, none, .objs [], .mv (.v 61)⟩]))) <|
  .seq (.ops ([
  ⟨some 62, none, none, .objs [], .mv (.v 11)⟩,
  ⟨some 63, none, none, .objs [], .mv (.v 10)⟩,
  ⟨some 64, none, none, .objs [], .app 2 16 (.v 62) (.v 63)⟩,
  ⟨some 65, none, none, .objs [], .mv (.v 9)⟩,
  ⟨some 4, none, none, .objs [], .mv (.v 64)⟩,
  ⟨some 5, none, none, .objs [], .mv (.v 65)⟩] ++ mkL [4, 5] ([
  ⟨some 6, none, none, .objs [], .mv (.c (.sc (.int .i64 0)))⟩]))) <|
  .ret

theorem il24_eq : cFn Try.prog pol 24 = some ⟨66, il24c, [(4, none), (5, none), (6, none)]⟩ := by kernel_rfl

noncomputable def il25l0 : C :=
  .seq (.ops ([
  ⟨some 12, none, none, .objs [], .bin .lss false (.v 11) (.v 10)⟩])) <|
  .seq (.cond (.v 12) (.nop) (.exit 0)) <|
  .seq (.block 1 (.seq (.ops ([
    ⟨some 13, none, none, .objs [], .iaS 2 (.v 9) (.v 11)⟩,
    ⟨some 14, none, none, .objs [], .ld true 2 (.v 13)⟩,
    ⟨some 5, none, none, .objs [], .nw 2 (.agg [(.sc (.int .i64 0)), (.sc (.int .i64 0))])⟩,
    ⟨none, none, none, .objs [], .st 2 (.v 5) (.v 14)⟩])) <|
    .seq (.seq (.ops ([
    ⟨some 15, none, none, .objs [], .fa 0 (.v 5)⟩,
    ⟨some 16, none, none, .objs [], .ld false 1 (.v 15)⟩,
    ⟨some 17, none, none, .objs [], .call (.c (.fn (.func 43) [] [])) [(.v 16)]⟩,
    ⟨some 18, none, none, .objs [], .nt (.v 17)⟩,
    ⟨some 19, none, none, .objs [], .mv (.v 18)⟩,
    ⟨some 20, some (19, false), none, .objs [], .fa 0 (.v 5)⟩,
    ⟨some 21, some (19, false), none, .objs [], .ld false 1 (.v 20)⟩,
    ⟨some 22, some (19, false), none, .objs [], .mv (.v 3)⟩,
    ⟨some 23, some (19, false), none, .objs [], .bin .leq false (.v 21) (.v 22)⟩] ++ mkL [5, 9, 10, 11, 19, 23] ([
    ⟨some 24, none, none, .objs [], .pk (.v 19) (.c (.sc (.bool true))) (.v 23)⟩,
    ⟨some 25, none, none, .objs [], .mv (.v 24)⟩,
    ⟨some 26, some (25, false), none, .objs [], .fa 1 (.v 5)⟩,
    ⟨some 27, some (25, false), none, .objs [], .ld false 1 (.v 26)⟩,
    ⟨some 28, some (25, false), none, .objs [], .call (.c (.fn (.func 41) [] [])) [(.v 27)]⟩,
    ⟨some 29, some (25, false), none, .objs [], .nt (.v 28)⟩,
    ⟨some 30, none, none, .objs [], .pk (.v 25) (.c (.sc (.bool true))) (.v 29)⟩]))) <|
    .cond (.v 30) (.seq (.ops ([
      ⟨some 2, none, none, .objs [], .mv (.c (.sc (.int .i64 490)))⟩])) <|
      .ret) (.nop)) <|
    .ops ([
    ⟨some 31, none, none, .objs [], .fa 0 (.v 5)⟩,
    ⟨some 32, none, none, .objs [], .ld false 1 (.v 31)⟩,
    ⟨some 3, none, none, .objs [], .mv (.v 32)⟩]))) <|
  .ops ([
  ⟨some 33, none, none, .objs [], .bin .add false (.v 11) (.c (.sc (.int .i64 1)))⟩,
  ⟨some 11, none, none, .objs [], .mv (.v 33)⟩])

/-- isochron/seq.Check -/
noncomputable def il25c : C :=
  .seq (.ops ([
  ⟨some 2, none, none, .objs [], .mv (.c (.sc (.int .i64 0)))⟩])) <|
  .seq (.seq (.ops ([
  ⟨some 6, none, none, .objs [], .mv (.v 0)⟩,
  ⟨some 7, none, none, .objs [], .lenS (.v 6)⟩,
  ⟨some 8, none, none, .objs [], .bin .gtr false (.v 7) (.c (.sc (.int .i64 12)))⟩])) <|
  .cond (.v 8) (.seq (.ops ([
    ⟨some 2, none, none, .objs [], .mv (.c (.sc (.int .i64 490)))⟩])) <|
    .ret) (.nop)) <|
  .seq (.ops ([
  ⟨some 3, none, none, .objs [], .mv (.c (.sc (.int .i64 0)))⟩])) <|
  .seq (.seq (.ops ([
  ⟨some 9, none, none, .objs [], .mv (.v 0)⟩,
  ⟨some 10, none, none, .objs [], .lenS (.v 9)⟩,
  ⟨some 11, none, none, .objs [], .mv (.c (.sc (.int .i64 0)))⟩])) <|
  .block 0 (.loop (some [3, 9, 10, 11]) il25l0)) <|
  .seq (.ops ([
  ⟨some 2, none, none, .objs [], .mv (.c (.sc (.int .i64 0)))⟩])) <|
  .ret

theorem il25_eq : cFn Try.prog pol 25 = some ⟨34, il25c, [(2, none)]⟩ := by kernel_rfl

/-- slices.Clone[[]isochron/api.Counter,isochron/api.Counter] -/
noncomputable def il26c : C :=
  .seq (.ops ([
  ⟨some 2, none, none, .objs [], .mv (.c (.sc (.slice none 0 0)))⟩])) <|
  .seq (.seq (.ops ([
  ⟨some 3, none, none, .objs [], .mv (.v 0)⟩,
  ⟨some 4, none, none, .objs [], .raw (opOf Try.prog 26 1 1)⟩])) <|
  .cond (.v 4) (.seq (.ops ([
    ⟨some 2, none, none, .objs [], .mv (.c (.sc (.slice none 0 0)))⟩])) <|
    .ret) (.nop)) <|
  .seq (.ops ([
  ⟨some 5, none, none, .objs [], .bs false 2 (.agg [(.sc (.int .i64 0)), (.sc (.int .i64 0))]) 0 []⟩,
  ⟨some 6, none, none, .objs [], .mv (.v 0)⟩,
  ⟨some 7, none, none, .objs [], .app 2 16 (.v 5) (.v 6)⟩,
  ⟨some 2, none, none, .objs [], .mv (.v 7)⟩])) <|
  .ret

theorem il26_eq : cFn Try.prog pol 26 = some ⟨8, il26c, [(2, none)]⟩ := by kernel_rfl

noncomputable def il27l0 : C :=
  .seq (.seq (.ops ([
  ⟨some 4, none, none, .objs [], .mv (.v 3)⟩,
  ⟨some 5, none, none, .objs [], .mv (.v 0)⟩,
  ⟨some 6, none, none, .objs [], .lenS (.v 5)⟩,
  ⟨some 7, none, none, .objs [], .bin .lss false (.v 4) (.v 6)⟩])) <|
  .cond (.v 7) (.nop) (.exit 0)) <|
  .seq (.block 1 (.seq (.opsD [] ([
    ⟨some 10, none, none, .objs [], .mv (.v 0)⟩,
    ⟨some 11, none, none, .objs [], .mv (.v 3)⟩,
    ⟨some 12, none, none, .objs [], .iaS 2 (.v 10) (.v 11)⟩,
    ⟨some 13, none, none, .objs [], .fa 0 (.v 12)⟩,
    ⟨some 14, none, none, .objs [(.v 13)], .ld false 1 (.v 13)⟩,
    ⟨some 15, none, none, .objs [], .bin .lss false (.v 14) (.c (.sc (.int .i64 1)))⟩,
    ⟨some 16, none, none, .objs [], .mv (.v 15)⟩,
    ⟨some 17, some (16, false), none, .objs [], .mv (.v 0)⟩,
    ⟨some 18, some (16, false), none, .objs [], .mv (.v 3)⟩,
    ⟨some 19, some (16, false), none, .objs [], .iaS 2 (.v 17) (.v 18)⟩] ++ mkL [0, 3, 16, 19] ([
    ⟨some 20, some (16, false), none, .objs [], .fa 0 (.v 19)⟩,
    ⟨some 21, some (16, false), none, .objs [(.v 20)], .ld false 1 (.v 20)⟩,
    ⟨some 22, some (16, false), none, .objs [], .bin .gtr false (.v 21) (.c (.sc (.int .i64 4095)))⟩,
    ⟨some 23, none, none, .objs [], .pk (.v 16) (.c (.sc (.bool true))) (.v 22)⟩,
    ⟨some 24, none, none, .objs [], .mv (.v 23)⟩,
    ⟨some 25, some (24, false), none, .objs [], .mv (.v 0)⟩,
    ⟨some 26, some (24, false), none, .objs [], .mv (.v 3)⟩,
    ⟨some 27, some (24, false), none, .objs [], .iaS 2 (.v 25) (.v 26)⟩,
    ⟨some 28, some (24, false), none, .objs [], .fa 1 (.v 27)⟩,
    ⟨some 29, some (24, false), none, .objs [(.v 28)], .ld false 1 (.v 28)⟩,
    ⟨some 30, some (24, false), none, .cal (.c (.fn (.func 20) [] [])) [(.v 29)], .call (.c (.fn (.func 20) [] [])) [(.v 29)]⟩,
    ⟨some 31, some (24, false), none, .objs [], .nt (.v 30)⟩,
    ⟨some 32, none, none, .objs [], .pk (.v 24) (.c (.sc (.bool true))) (.v 31)⟩,
    ⟨some 33, none, none, .objs [], .mv (.v 32)⟩] ++ mkL [0, 3, 33] ([
    ⟨some 34, some (33, false), none, .objs [], .mv (.v 3)⟩,
    ⟨some 35, some (33, false), none, .objs [], .bin .gtr false (.v 34) (.c (.sc (.int .i64 0)))⟩,
    ⟨some 36, some (33, false), none, .objs [], .mv (.v 35)⟩,
    ⟨some 37, some (36, true), none, .objs [], .mv (.v 0)⟩,
    ⟨some 38, some (36, true), none, .objs [], .mv (.v 3)⟩,
    ⟨some 39, some (36, true), none, .objs [], .bin .sub false (.v 38) (.c (.sc (.int .i64 1)))⟩,
    ⟨some 40, some (36, true), none, .objs [], .iaS 2 (.v 37) (.v 39)⟩,
    ⟨some 41, some (36, true), none, .objs [], .fa 0 (.v 40)⟩,
    ⟨some 42, some (36, true), none, .objs [(.v 41)], .ld false 1 (.v 41)⟩,
    ⟨some 43, some (36, true), none, .objs [], .mv (.v 0)⟩,
    ⟨some 44, some (36, true), none, .objs [], .mv (.v 3)⟩,
    ⟨some 45, some (36, true), none, .objs [], .iaS 2 (.v 43) (.v 44)⟩,
    ⟨some 46, some (36, true), none, .objs [], .fa 0 (.v 45)⟩,
    ⟨some 47, some (36, true), none, .objs [(.v 46)], .ld false 1 (.v 46)⟩] ++ mkL [0, 3, 33, 36, 42, 47] ([
    ⟨some 48, some (36, true), none, .objs [], .bin .geq false (.v 42) (.v 47)⟩,
    ⟨some 49, some (33, false), none, .objs [], .pk (.v 36) (.v 48) (.c (.sc (.bool false)))⟩,
    ⟨some 50, none, none, .objs [], .pk (.v 33) (.c (.sc (.bool true))) (.v 49)⟩]))))) <|
    .cond (.v 50) (.seq (.ops ([
      ⟨some 2, none, none, .objs [], .mv (.c (.sc (.bool false)))⟩])) <|
      .ret) (.nop))) <|
  .ops ([
  ⟨some 8, none, none, .objs [], .mv (.v 3)⟩,
  ⟨some 9, none, none, .objs [], .bin .add false (.v 8) (.c (.sc (.int .i64 1)))⟩,
  ⟨some 3, none, none, .objs [], .mv (.v 9)⟩])

/-- isochron/isochronref39.Right -/
noncomputable def il27c : C :=
  .seq (.ops ([
  ⟨some 2, none, none, .objs [], .mv (.c (.sc (.bool false)))⟩])) <|
  .seq (.seq (.ops ([
  ⟨some 3, none, none, .objs [], .mv (.c (.sc (.int .i64 0)))⟩])) <|
  .block 0 (.loop (some [0, 3]) il27l0)) <|
  .seq (.ops ([
  ⟨some 51, none, none, .objs [], .mv (.v 0)⟩,
  ⟨some 52, none, none, .objs [], .lenS (.v 51)⟩,
  ⟨some 53, none, none, .objs [], .bin .leq false (.v 52) (.c (.sc (.int .i64 12)))⟩,
  ⟨some 2, none, none, .objs [], .mv (.v 53)⟩])) <|
  .ret

theorem il27_eq : cFn Try.prog pol 27 = some ⟨54, il27c, [(2, none)]⟩ := by kernel_rfl

noncomputable def il28l0 : C :=
  .seq (.seq (.ops ([
  ⟨some 20, none, none, .objs [], .mv (.v 10)⟩,
  ⟨some 21, none, none, .objs [], .mv (.v 0)⟩,
  ⟨some 22, none, none, .objs [], .lenS (.v 21)⟩,
  ⟨some 23, none, none, .objs [], .bin .lss false (.v 20) (.v 22)⟩])) <|
  .cond (.v 23) (.nop) (.exit 0)) <|
  .seq (.block 1 (.seq (.seq (.ops ([
    ⟨some 26, none, none, .objs [], .mv (.v 0)⟩,
    ⟨some 27, none, none, .objs [], .mv (.v 10)⟩,
    ⟨some 28, none, none, .objs [], .iaS 2 (.v 26) (.v 27)⟩,
    ⟨some 29, none, none, .objs [], .fa 0 (.v 28)⟩,
    ⟨some 30, none, none, .objs [], .ld false 1 (.v 29)⟩,
    ⟨some 31, none, none, .objs [], .mv (.v 1)⟩,
    ⟨some 32, none, none, .objs [], .bin .eql false (.v 30) (.v 31)⟩])) <|
    .cond (.v 32) (.seq (.ops ([
      ⟨some 33, none, none, .objs [], .mv (.v 0)⟩,
      ⟨some 34, none, none, .objs [], .mv (.v 10)⟩,
      ⟨some 35, none, none, .objs [], .iaS 2 (.v 33) (.v 34)⟩] ++ mkL [0, 1, 7, 10, 35] ([
      ⟨some 36, none, none, .objs [], .fa 1 (.v 35)⟩,
      ⟨some 37, none, none, .objs [], .ld false 1 (.v 36)⟩,
      ⟨some 8, none, none, .objs [], .mv (.v 37)⟩]))) <|
      .seq (.ops ([
      ⟨some 38, none, none, .objs [], .mv (.v 7)⟩,
      ⟨some 39, none, none, .objs [], .mv (.v 1)⟩,
      ⟨some 40, none, none, .objs [], .mv (.v 8)⟩,
      ⟨some 41, none, none, .objs [], .call (.c (.fn (.func 19) [] [])) [(.v 40), (.c (.sc (.int .i64 1)))]⟩,
      ⟨some 42, none, none, .objs [], .bd [(.sc (.int .i64 0)), (.sc (.int .i64 0))] [(0, 1, (.v 39)), (1, 1, (.v 41))]⟩,
      ⟨some 43, none, none, .objs [], .bs false 2 (.agg [(.sc (.int .i64 0)), (.sc (.int .i64 0))]) 1 [(0, (.v 42))]⟩,
      ⟨some 44, none, none, .objs [], .app 2 16 (.v 38) (.v 43)⟩,
      ⟨some 7, none, none, .objs [], .gmv 2 (.v 44)⟩])) <|
      .seq (.ops ([
      ⟨some 9, none, none, .objs [], .mv (.c (.sc (.bool true)))⟩])) <|
      .exit 1) (.nop)) <|
    .seq (.seq (.ops ([
    ⟨some 45, none, none, .objs [], .mv (.v 9)⟩,
    ⟨some 46, none, none, .objs [], .nt (.v 45)⟩] ++ mkL [0, 1, 7, 8, 9, 10, 46] ([
    ⟨some 47, none, none, .objs [], .mv (.v 46)⟩,
    ⟨some 48, some (47, true), none, .objs [], .mv (.v 0)⟩,
    ⟨some 49, some (47, true), none, .objs [], .mv (.v 10)⟩,
    ⟨some 50, some (47, true), none, .objs [], .iaS 2 (.v 48) (.v 49)⟩,
    ⟨some 51, some (47, true), none, .objs [], .fa 0 (.v 50)⟩,
    ⟨some 52, some (47, true), none, .objs [], .ld false 1 (.v 51)⟩,
    ⟨some 53, some (47, true), none, .objs [], .mv (.v 1)⟩,
    ⟨some 54, some (47, true), none, .objs [], .bin .gtr false (.v 52) (.v 53)⟩,
    ⟨some 55, none, none, .objs [], .pk (.v 47) (.v 54) (.c (.sc (.bool false)))⟩]))) <|
    .cond (.v 55) (.seq (.ops ([
      ⟨some 56, none, none, .objs [], .mv (.v 7)⟩,
      ⟨some 57, none, none, .objs [], .mv (.v 1)⟩,
      ⟨some 58, none, none, .objs [], .bd [(.sc (.int .i64 0)), (.sc (.int .i64 0))] [(0, 1, (.v 57)), (1, 1, (.c (.sc (.int .i64 1))))]⟩,
      ⟨some 59, none, none, .objs [], .bs false 2 (.agg [(.sc (.int .i64 0)), (.sc (.int .i64 0))]) 1 [(0, (.v 58))]⟩,
      ⟨some 60, none, none, .objs [], .app 2 16 (.v 56) (.v 59)⟩] ++ mkL [0, 1, 8, 10, 60] ([
      ⟨some 7, none, none, .objs [], .gmv 2 (.v 60)⟩]))) <|
      .ops ([
      ⟨some 9, none, none, .objs [], .mv (.c (.sc (.bool true)))⟩])) (.nop)) <|
    .ops ([
    ⟨some 61, none, none, .objs [], .mv (.v 7)⟩,
    ⟨some 62, none, none, .objs [], .mv (.v 0)⟩,
    ⟨some 63, none, none, .objs [], .mv (.v 10)⟩,
    ⟨some 64, none, none, .objs [], .iaS 2 (.v 62) (.v 63)⟩,
    ⟨some 65, none, none, .objs [], .ld true 2 (.v 64)⟩] ++ mkL [0, 1, 8, 9, 10, 61, 65] ([
    ⟨some 66, none, none, .objs [], .bs false 2 (.agg [(.sc (.int .i64 0)), (.sc (.int .i64 0))]) 1 [(0, (.v 65))]⟩,
    ⟨some 67, none, none, .objs [], .app 2 16 (.v 61) (.v 66)⟩,
    ⟨some 7, none, none, .objs [], .gmv 2 (.v 67)⟩])))) <|
  .ops ([
  ⟨some 24, none, none, .objs [], .mv (.v 10)⟩,
  ⟨some 25, none, none, .objs [], .bin .add false (.v 24) (.c (.sc (.int .i64 1)))⟩,
  ⟨some 10, none, none, .objs [], .mv (.v 25)⟩])

/-- isochron/isochronref39.Next -/
noncomputable def il28c : C :=
  .seq (.ops ([
  ⟨some 4, none, none, .objs [], .mv (.c (.sc (.slice none 0 0)))⟩,
  ⟨some 5, none, none, .objs [], .mv (.c (.sc (.int .i64 0)))⟩,
  ⟨some 6, none, none, .objs [], .mv (.c (.sc (.int .i64 0)))⟩])) <|
  .seq (.seq (.ops ([
  ⟨some 11, none, none, .objs [], .mv (.v 0)⟩,
  ⟨some 12, none, none, .objs [], .call (.c (.fn (.func 27) [] [])) [(.v 11)]⟩,
  ⟨some 13, none, none, .objs [], .nt (.v 12)⟩])) <|
  .cond (.v 13) (.seq (.ops ([
    ⟨some 4, none, none, .objs [], .mv (.c (.sc (.slice none 0 0)))⟩,
    ⟨some 5, none, none, .objs [], .mv (.c (.sc (.int .i64 0)))⟩,
    ⟨some 6, none, none, .objs [], .mv (.c (.sc (.int .i64 490)))⟩])) <|
    .ret) (.nop)) <|
  .seq (.seq (.ops ([
  ⟨some 14, none, none, .objs [], .mv (.v 1)⟩,
  ⟨some 15, none, none, .objs [], .bin .lss false (.v 14) (.c (.sc (.int .i64 1)))⟩,
  ⟨some 16, none, none, .objs [], .mv (.v 15)⟩,
  ⟨some 17, some (16, false), none, .objs [], .mv (.v 1)⟩,
  ⟨some 18, some (16, false), none, .objs [], .bin .gtr false (.v 17) (.c (.sc (.int .i64 4095)))⟩] ++ mkL [0, 1, 16, 18] ([
  ⟨some 19, none, none, .objs [], .pk (.v 16) (.c (.sc (.bool true))) (.v 18)⟩]))) <|
  .cond (.v 19) (.seq (.ops ([
    ⟨some 4, none, none, .objs [], .mv (.c (.sc (.slice none 0 0)))⟩,
    ⟨some 5, none, none, .objs [], .mv (.c (.sc (.int .i64 0)))⟩,
    ⟨some 6, none, none, .objs [], .mv (.c (.sc (.int .i64 2)))⟩])) <|
    .ret) (.nop)) <|
  .seq (.ops ([
  ⟨some 7, none, none, .objs [], .gmv 2 (.c (.sc (.slice none 0 0)))⟩])) <|
  .seq (.ops ([
  ⟨some 8, none, none, .objs [], .mv (.c (.sc (.int .i64 0)))⟩,
  ⟨some 9, none, none, .objs [], .mv (.c (.sc (.bool false)))⟩])) <|
  .seq (.seq (.ops ([
  ⟨some 10, none, none, .objs [], .mv (.c (.sc (.int .i64 0)))⟩])) <|
  .block 0 (.loop (some [0, 1, 7, 8, 9, 10]) il28l0)) <|
  .seq (.seq (.ops ([
  ⟨some 68, none, none, .objs [], .mv (.v 9)⟩,
  ⟨some 69, none, none, .objs [], .nt (.v 68)⟩])) <|
  .cond (.v 69) (.ops ([
    ⟨some 70, none, none, .objs [], .mv (.v 7)⟩,
    ⟨some 71, none, none, .objs [], .mv (.v 1)⟩,
    ⟨some 72, none, none, .objs [], .bd [(.sc (.int .i64 0)), (.sc (.int .i64 0))] [(0, 1, (.v 71)), (1, 1, (.c (.sc (.int .i64 1))))]⟩,
    ⟨some 73, none, none, .objs [], .bs false 2 (.agg [(.sc (.int .i64 0)), (.sc (.int .i64 0))]) 1 [(0, (.v 72))]⟩,
    ⟨some 74, none, none, .objs [], .app 2 16 (.v 70) (.v 73)⟩,
    ⟨some 7, none, none, .objs [], .gmv 2 (.v 74)⟩])) (.nop)) <|
  .seq (.seq (.ops ([
  ⟨some 75, none, none, .objs [], .mv (.v 7)⟩,
  ⟨some 76, none, none, .objs [], .lenS (.v 75)⟩,
  ⟨some 77, none, none, .objs [], .bin .gtr false (.v 76) (.c (.sc (.int .i64 12)))⟩])) <|
  .cond (.v 77) (.seq (.ops ([
    ⟨some 4, none, none, .objs [], .mv (.c (.sc (.slice none 0 0)))⟩,
    ⟨some 5, none, none, .objs [], .mv (.c (.sc (.int .i64 0)))⟩,
    ⟨some 6, none, none, .objs [], .mv (.c (.sc (.int .i64 7)))⟩])) <|
    .ret) (.nop)) <| mkC [7, 8] <|
  .seq (.ops ([
  ⟨some 78, none, none, .objs [], .mv (.v 7)⟩,
  ⟨some 79, none, none, .objs [], .mv (.v 8)⟩,
  ⟨some 4, none, none, .objs [], .mv (.v 78)⟩,
  ⟨some 5, none, none, .objs [], .mv (.v 79)⟩,
  ⟨some 6, none, none, .objs [], .mv (.c (.sc (.int .i64 0)))⟩])) <|
  .ret

theorem il28_eq : cFn Try.prog pol 28 = some ⟨80, il28c, [(4, none), (5, none), (6, none)]⟩ := by kernel_rfl

noncomputable def il29l0 : C :=
  .seq (.seq (.ops ([
  ⟨some 11, none, none, .objs [], .mv (.v 5)⟩,
  ⟨some 12, none, none, .objs [], .mv (.v 0)⟩,
  ⟨some 13, none, none, .objs [], .lenS (.v 12)⟩,
  ⟨some 14, none, none, .objs [], .bin .lss false (.v 11) (.v 13)⟩])) <|
  .cond (.v 14) (.nop) (.exit 0)) <|
  .seq (.block 1 (.seq (.opsD [] ([
    ⟨some 17, none, none, .objs [], .mv (.v 0)⟩,
    ⟨some 18, none, none, .objs [], .mv (.v 5)⟩,
    ⟨some 19, none, none, .objs [], .iaS 2 (.v 17) (.v 18)⟩,
    ⟨some 20, none, none, .objs [(.v 19)], .ld true 2 (.v 19)⟩,
    ⟨some 21, none, none, .objs [], .mv (.v 1)⟩,
    ⟨some 22, none, none, .objs [], .mv (.v 5)⟩,
    ⟨some 23, none, none, .objs [], .iaS 2 (.v 21) (.v 22)⟩,
    ⟨some 24, none, none, .objs [(.v 23)], .ld true 2 (.v 23)⟩,
    ⟨some 25, none, none, .objs [], .raw (opOf Try.prog 29 6 8)⟩])) <|
    .cond (.v 25) (.seq (.ops ([
      ⟨some 4, none, none, .objs [], .mv (.c (.sc (.bool false)))⟩])) <|
      .ret) (.nop))) <| mkC [0, 1, 5] <|
  .ops ([
  ⟨some 15, none, none, .objs [], .mv (.v 5)⟩,
  ⟨some 16, none, none, .objs [], .bin .add false (.v 15) (.c (.sc (.int .i64 1)))⟩,
  ⟨some 5, none, none, .objs [], .mv (.v 16)⟩])

/-- isochron/isochronref39.Same -/
noncomputable def il29c : C :=
  .seq (.ops ([
  ⟨some 4, none, none, .objs [], .mv (.c (.sc (.bool false)))⟩])) <|
  .seq (.seq (.ops ([
  ⟨some 6, none, none, .objs [], .mv (.v 0)⟩,
  ⟨some 7, none, none, .objs [], .lenS (.v 6)⟩,
  ⟨some 8, none, none, .objs [], .mv (.v 1)⟩,
  ⟨some 9, none, none, .objs [], .lenS (.v 8)⟩,
  ⟨some 10, none, none, .objs [], .bin .neq false (.v 7) (.v 9)⟩])) <|
  .cond (.v 10) (.seq (.ops ([
    ⟨some 4, none, none, .objs [], .mv (.c (.sc (.bool false)))⟩])) <|
    .ret) (.nop)) <|
  .seq (.seq (.ops ([
  ⟨some 5, none, none, .objs [], .mv (.c (.sc (.int .i64 0)))⟩])) <|
  .block 0 (.loop (some [0, 1, 5]) il29l0)) <|
  .seq (.ops ([
  ⟨some 4, none, none, .objs [], .mv (.c (.sc (.bool true)))⟩])) <|
  .ret

theorem il29_eq : cFn Try.prog pol 29 = some ⟨26, il29c, [(4, none)]⟩ := by kernel_rfl

noncomputable def il40l0 : C :=
  .seq (.ops ([
  ⟨some 14, none, none, .objs [], .bin .lss false (.v 13) (.v 12)⟩])) <|
  .seq (.cond (.v 14) (.nop) (.exit 0)) <|
  .seq (.block 1 (.seq (.ops ([
    ⟨some 15, none, none, .objs [], .mv (.v 13)⟩,
    ⟨some 5, none, none, .objs [], .mv (.v 15)⟩])) <|
    .seq (.opsD [] ([
    ⟨some 16, none, none, .objs [], .mv (.v 0)⟩,
    ⟨some 17, none, none, .objs [], .mv (.v 5)⟩,
    ⟨some 18, none, none, .objs [], .iaS 2 (.v 16) (.v 17)⟩,
    ⟨some 19, none, none, .objs [(.v 18)], .ld true 2 (.v 18)⟩,
    ⟨some 20, none, none, .objs [], .mv (.v 1)⟩,
    ⟨some 21, none, none, .objs [], .mv (.v 5)⟩,
    ⟨some 22, none, none, .objs [], .iaS 2 (.v 20) (.v 21)⟩,
    ⟨some 23, none, none, .objs [(.v 22)], .ld true 2 (.v 22)⟩,
    ⟨some 24, none, none, .objs [], .raw (opOf Try.prog 40 6 8)⟩])) <|
    .cond (.v 24) (.seq (.ops ([
      ⟨some 4, none, none, .objs [], .mv (.c (.sc (.bool false)))⟩])) <|
      .ret) (.nop))) <|
  .ops ([
  ⟨some 25, none, none, .objs [], .bin .add false (.v 13) (.c (.sc (.int .i64 1)))⟩] ++ mkL [0, 1, 12, 25] ([
  ⟨some 13, none, none, .objs [], .mv (.v 25)⟩]))

/-- slices.Equal[[]isochron/api.Counter,isochron/api.Counter] -/
noncomputable def il40c : C :=
  .seq (.ops ([
  ⟨some 4, none, none, .objs [], .mv (.c (.sc (.bool false)))⟩])) <|
  .seq (.seq (.ops ([
  ⟨some 6, none, none, .objs [], .mv (.v 0)⟩,
  ⟨some 7, none, none, .objs [], .lenS (.v 6)⟩,
  ⟨some 8, none, none, .objs [], .mv (.v 1)⟩,
  ⟨some 9, none, none, .objs [], .lenS (.v 8)⟩,
  ⟨some 10, none, none, .objs [], .bin .neq false (.v 7) (.v 9)⟩])) <|
  .cond (.v 10) (.seq (.ops ([
    ⟨some 4, none, none, .objs [], .mv (.c (.sc (.bool false)))⟩])) <|
    .ret) (.nop)) <|
  .seq (.seq (.ops ([
  ⟨some 11, none, none, .objs [], .mv (.v 0)⟩,
  ⟨some 12, none, none, .objs [], .lenS (.v 11)⟩,
  ⟨some 13, none, none, .objs [], .mv (.c (.sc (.int .i64 0)))⟩])) <|
  .block 0 (.loop (some [0, 1, 12, 13]) il40l0)) <|
  .seq (.ops ([
  ⟨some 4, none, none, .objs [], .mv (.c (.sc (.bool true)))⟩])) <|
  .ret

theorem il40_eq : cFn Try.prog pol 40 = some ⟨26, il40c, [(4, none)]⟩ := by kernel_rfl

/-- isochron/seq.number -/
noncomputable def il41c : C :=
  .seq (.ops ([
  ⟨some 2, none, none, .objs [], .mv (.c (.sc (.bool false)))⟩])) <|
  .seq (.ops ([
  ⟨some 3, none, none, .objs [], .mv (.v 0)⟩,
  ⟨some 4, none, none, .objs [], .bin .geq false (.v 3) (.c (.sc (.int .i64 0)))⟩,
  ⟨some 5, none, none, .objs [], .mv (.v 4)⟩,
  ⟨some 6, some (5, true), none, .objs [], .mv (.v 0)⟩,
  ⟨some 7, some (5, true), none, .objs [], .bin .lss false (.v 6) (.c (.sc (.int .i64 65536)))⟩,
  ⟨some 8, none, none, .objs [], .pk (.v 5) (.v 7) (.c (.sc (.bool false)))⟩,
  ⟨some 2, none, none, .objs [], .mv (.v 8)⟩])) <|
  .ret

theorem il41_eq : cFn Try.prog pol 41 = some ⟨9, il41c, [(2, none)]⟩ := by kernel_rfl

/-- isochron/seq.wrap -/
noncomputable def il42c : C :=
  .seq (.ops ([
  ⟨some 2, none, none, .objs [], .mv (.c (.sc (.int .i64 0)))⟩])) <|
  .seq (.ops ([
  ⟨some 3, none, none, .objs [], .mv (.v 0)⟩,
  ⟨some 4, none, none, .objs [], .bin .rem false (.v 3) (.c (.sc (.int .i64 65536)))⟩,
  ⟨some 0, none, none, .objs [], .mv (.v 4)⟩])) <|
  .seq (.seq (.ops ([
  ⟨some 5, none, none, .objs [], .mv (.v 0)⟩,
  ⟨some 6, none, none, .objs [], .bin .lss false (.v 5) (.c (.sc (.int .i64 0)))⟩])) <|
  .cond (.v 6) (.ops ([
    ⟨some 7, none, none, .objs [], .mv (.v 0)⟩,
    ⟨some 8, none, none, .objs [], .bin .add false (.v 7) (.c (.sc (.int .i64 65536)))⟩,
    ⟨some 0, none, none, .objs [], .mv (.v 8)⟩])) (.nop)) <|
  .seq (.ops ([
  ⟨some 9, none, none, .objs [], .mv (.v 0)⟩,
  ⟨some 2, none, none, .objs [], .mv (.v 9)⟩])) <|
  .ret

theorem il42_eq : cFn Try.prog pol 42 = some ⟨10, il42c, [(2, none)]⟩ := by kernel_rfl

/-- isochron/seq.streamId -/
noncomputable def il43c : C :=
  .seq (.ops ([
  ⟨some 2, none, none, .objs [], .mv (.c (.sc (.bool false)))⟩])) <|
  .seq (.ops ([
  ⟨some 3, none, none, .objs [], .mv (.v 0)⟩,
  ⟨some 4, none, none, .objs [], .bin .geq false (.v 3) (.c (.sc (.int .i64 1)))⟩,
  ⟨some 5, none, none, .objs [], .mv (.v 4)⟩,
  ⟨some 6, some (5, true), none, .objs [], .mv (.v 0)⟩,
  ⟨some 7, some (5, true), none, .objs [], .bin .leq false (.v 6) (.c (.sc (.int .i64 4095)))⟩,
  ⟨some 8, none, none, .objs [], .pk (.v 5) (.v 7) (.c (.sc (.bool false)))⟩,
  ⟨some 2, none, none, .objs [], .mv (.v 8)⟩])) <|
  .ret

theorem il43_eq : cFn Try.prog pol 43 = some ⟨9, il43c, [(2, none)]⟩ := by kernel_rfl

/-- isochron/seq.copies -/
noncomputable def il44c : C :=
  .seq (.ops ([
  ⟨some 2, none, none, .objs [], .bx false (.v 0)⟩,
  ⟨some 3, none, none, .objs [], .bx false (.v 1)⟩,
  ⟨some 4, none, none, .objs [], .mv (.c (.sc .nilFunc))⟩])) <|
  .seq (.ops ([
  ⟨some 5, none, none, .objs [], .fn 54 [] [(.v 3), (.v 2)]⟩,
  ⟨some 4, none, none, .objs [], .mv (.v 5)⟩])) <|
  .ret

theorem il44_eq : cFn Try.prog pol 44 = some ⟨6, il44c, [(4, none)]⟩ := by kernel_rfl

noncomputable def il45l0 : C :=
  .seq (.ops ([
  ⟨some 10, none, none, .objs [], .bin .lss false (.v 9) (.v 8)⟩])) <|
  .seq (.cond (.v 10) (.nop) (.exit 0)) <|
  .seq (.block 1 (.seq (.ops ([
    ⟨some 11, none, none, .objs [], .mv (.v 9)⟩,
    ⟨some 12, none, none, .objs [], .iaS 2 (.v 7) (.v 9)⟩,
    ⟨some 13, none, none, .objs [], .ld true 2 (.v 12)⟩,
    ⟨some 6, none, none, .objs [], .nw 2 (.agg [(.sc (.int .i64 0)), (.sc (.int .i64 0))])⟩,
    ⟨some 5, none, none, .objs [], .mv (.v 11)⟩,
    ⟨none, none, none, .objs [], .st 2 (.v 6) (.v 13)⟩])) <|
    .seq (.ops ([
    ⟨some 14, none, none, .objs [], .mv (.v 1)⟩,
    ⟨some 15, none, none, .objs [], .ld true 2 (.v 6)⟩,
    ⟨some 16, none, none, .objs [], .call (.v 14) [(.v 15)]⟩])) <|
    .cond (.v 16) (.seq (.ops ([
      ⟨some 17, none, none, .objs [], .mv (.v 5)⟩,
      ⟨some 4, none, none, .objs [], .mv (.v 17)⟩])) <|
      .ret) (.nop))) <|
  .ops ([
  ⟨some 18, none, none, .objs [], .bin .add false (.v 9) (.c (.sc (.int .i64 1)))⟩,
  ⟨some 9, none, none, .objs [], .mv (.v 18)⟩])

/-- isochron/seq.find[isochron/api.Counter] -/
noncomputable def il45c : C :=
  .seq (.ops ([
  ⟨some 4, none, none, .objs [], .mv (.c (.sc (.int .i64 0)))⟩])) <|
  .seq (.seq (.ops ([
  ⟨some 7, none, none, .objs [], .mv (.v 0)⟩,
  ⟨some 8, none, none, .objs [], .lenS (.v 7)⟩,
  ⟨some 9, none, none, .objs [], .mv (.c (.sc (.int .i64 0)))⟩])) <|
  .block 0 (.loop (some [0, 1, 7, 8, 9]) il45l0)) <|
  .seq (.ops ([
  ⟨some 19, none, none, .objs [], .mv (.v 0)⟩,
  ⟨some 20, none, none, .objs [], .lenS (.v 19)⟩,
  ⟨some 4, none, none, .objs [], .mv (.v 20)⟩])) <|
  .ret

theorem il45_eq : cFn Try.prog pol 45 = some ⟨21, il45c, [(4, none)]⟩ := by kernel_rfl

/-- isochron/seq.Next$1 -/
noncomputable def il46c : C :=
  .seq (.ops ([
  ⟨some 2, none, none, .objs [], .bx false (.v 0)⟩,
  ⟨some 3, none, none, .objs [], .mv (.c (.sc (.bool false)))⟩])) <|
  .seq (.ops ([
  ⟨some 4, none, none, .objs [], .fa 0 (.v 2)⟩,
  ⟨some 5, none, none, .objs [], .ld false 1 (.v 4)⟩,
  ⟨some 6, none, none, .objs [], .ld false 1 (.v 1)⟩,
  ⟨some 7, none, none, .objs [], .bin .geq false (.v 5) (.v 6)⟩,
  ⟨some 3, none, none, .objs [], .mv (.v 7)⟩])) <|
  .ret

theorem il46_eq : cFn Try.prog pol 46 = some ⟨8, il46c, [(3, none)]⟩ := by kernel_rfl

noncomputable def il54l0 : C :=
  .seq (.ops ([
  ⟨some 9, none, none, .objs [], .bin .lss false (.v 8) (.v 7)⟩])) <|
  .seq (.cond (.v 9) (.nop) (.exit 0)) <|
  .seq (.block 1 (.seq (.ops ([
    ⟨some 10, none, none, .objs [], .iaS 1 (.v 6) (.v 8)⟩,
    ⟨some 11, none, none, .objs [], .ld false 1 (.v 10)⟩,
    ⟨some 5, none, none, .objs [], .mv (.v 11)⟩])) <|
    .seq (.opsD [(1, 3)] ([
    ⟨some 12, none, none, .objs [], .mv (.v 0)⟩,
    ⟨some 13, none, none, .objs [(.v 2)], .ld true 5 (.v 2)⟩,
    ⟨some 14, none, none, .objs [], .mv (.v 5)⟩,
    ⟨some 15, none, none, .objs [(.c (.sc (.slice none 0 0))), (.v 14)], .app 1 8 (.c (.sc (.slice none 0 0))) (.v 14)⟩,
    ⟨some 16, none, none, .objs [], .bd [(.sc (.int .i64 0)), (.sc (.int .i64 0)), (.sc (.int .i64 0)), (.sc (.int .i64 0)), (.sc (.int .i64 0)), (.sc (.slice none 0 0))] [(0, 5, (.v 13)), (5, 1, (.v 15))]⟩,
    ⟨some 17, none, none, .cal (.v 12) [(.v 16)], .call (.v 12) [(.v 16)]⟩,
    ⟨some 18, none, none, .objs [], .nt (.v 17)⟩])) <|
    .cond (.v 18) (.ret) (.nop))) <|
  .ops ([
  ⟨some 19, none, none, .objs [], .bin .add false (.v 8) (.c (.sc (.int .i64 1)))⟩,
  ⟨some 8, none, none, .objs [], .mv (.v 19)⟩])

/-- isochron/seq.copies$1 -/
noncomputable def il54c : C :=
  .seq (.ops ([
  ⟨some 6, none, none, .objs [], .ld false 1 (.v 1)⟩,
  ⟨some 7, none, none, .objs [], .lenS (.v 6)⟩,
  ⟨some 8, none, none, .objs [], .mv (.c (.sc (.int .i64 0)))⟩])) <|
  .block 0 (.loop (some [0, 2, 6, 7, 8]) il54l0)

theorem il54_eq : cFn Try.prog pol 54 = some ⟨20, il54c, []⟩ := by kernel_rfl


end Go.Proofs.Ytkamfflnfnjbeaa
