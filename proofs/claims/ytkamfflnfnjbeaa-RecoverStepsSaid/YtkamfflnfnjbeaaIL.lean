/- Functions of the program, worked out ahead (printed by a program; each is checked against the program by the kernel). -/
import Derived.Test.YtkamfflnfnjbeaaILBase
set_option linter.unusedSimpArgs false
namespace Go.Proofs.Ytkamfflnfnjbeaa
open Go Go.Abs
set_option maxRecDepth 100000
set_option linter.unusedVariables false

theorem eqT31 {a0 b0 : Int} {a1 b1 : Int} {a2 b2 : Int} {a3 b3 : Int} {a4 b4 : Int} : aEq Try.prog 31 (.t (.agg [.sc (.int .i64 a0), .sc (.int .i64 a1), .sc (.int .i64 a2), .sc (.int .i64 a3), .sc (.int .i64 a4)])) (.t (.agg [.sc (.int .i64 b0), .sc (.int .i64 b1), .sc (.int .i64 b2), .sc (.int .i64 b3), .sc (.int .i64 b4)])) = some (decide (a0 = b0 ∧ a1 = b1 ∧ a2 = b2 ∧ a3 = b3 ∧ a4 = b4)) :=
  (show aEq Try.prog 31 (.t (.agg [.sc (.int .i64 a0), .sc (.int .i64 a1), .sc (.int .i64 a2), .sc (.int .i64 a3), .sc (.int .i64 a4)])) (.t (.agg [.sc (.int .i64 b0), .sc (.int .i64 b1), .sc (.int .i64 b2), .sc (.int .i64 b3), .sc (.int .i64 b4)])) = some ((a0 == b0) && ((a1 == b1) && ((a2 == b2) && ((a3 == b3) && ((a4 == b4) && true))))) by kernel_rfl).trans (by congr 1; rw [Bool.eq_iff_iff]; simp [and_assoc])

theorem eqT65 {a0 b0 : Int} {a1 b1 : Int} {a2 b2 : Bool} {a3 b3 : Int} {a4 b4 : Int} {a5 b5 : Int} : aEq Try.prog 65 (.t (.agg [.sc (.int .i64 a0), .sc (.int .i64 a1), .sc (.bool a2), .sc (.int .i64 a3), .sc (.int .i64 a4), .sc (.int .u64 a5)])) (.t (.agg [.sc (.int .i64 b0), .sc (.int .i64 b1), .sc (.bool b2), .sc (.int .i64 b3), .sc (.int .i64 b4), .sc (.int .u64 b5)])) = some (decide (a0 = b0 ∧ a1 = b1 ∧ a2 = b2 ∧ a3 = b3 ∧ a4 = b4 ∧ a5 = b5)) :=
  (show aEq Try.prog 65 (.t (.agg [.sc (.int .i64 a0), .sc (.int .i64 a1), .sc (.bool a2), .sc (.int .i64 a3), .sc (.int .i64 a4), .sc (.int .u64 a5)])) (.t (.agg [.sc (.int .i64 b0), .sc (.int .i64 b1), .sc (.bool b2), .sc (.int .i64 b3), .sc (.int .i64 b4), .sc (.int .u64 b5)])) = some ((a0 == b0) && ((a1 == b1) && ((a2 == b2) && ((a3 == b3) && ((a4 == b4) && ((a5 == b5) && true)))))) by kernel_rfl).trans (by congr 1; rw [Bool.eq_iff_iff]; simp [and_assoc])

theorem eqT46 : isSliceT Try.prog 46 = true := by kernel_rfl

theorem eqT50 {a0 b0 : Int} {a1 b1 : Int} : aEq Try.prog 50 (.t (.agg [.sc (.int .i64 a0), .sc (.int .i64 a1)])) (.t (.agg [.sc (.int .i64 b0), .sc (.int .i64 b1)])) = some (decide (a0 = b0 ∧ a1 = b1)) :=
  (show aEq Try.prog 50 (.t (.agg [.sc (.int .i64 a0), .sc (.int .i64 a1)])) (.t (.agg [.sc (.int .i64 b0), .sc (.int .i64 b1)])) = some ((a0 == b0) && ((a1 == b1) && true)) by kernel_rfl).trans (by congr 1; rw [Bool.eq_iff_iff]; simp [and_assoc])

/-- isochron/isochronlaw39.SeqDeltas -/
noncomputable def il3c : C :=
  .seq (.ops ([
  ⟨some 8, none, none, .objs [], .mv (.c (.sc (.bool false)))⟩])) <|
  .seq (.seq (.ops ([
  ⟨some 15, none, none, .objs [], .call (.c (.fn (.func 15) [] [])) []⟩,
  ⟨some 16, none, none, .objs [], .nt (.v 15)⟩])) <|
  .cond (.v 16) (.seq (.ops ([
    ⟨some 8, none, none, .objs [], .mv (.c (.sc (.bool false)))⟩])) <|
    .ret) (.nop)) <|
  .seq (.ops ([
  ⟨some 18, none, none, .objs [], .mv (.v 2)⟩,
  ⟨some 19, none, none, .objs [], .cv .i64 (.v 18)⟩,
  ⟨some 20, none, none, .objs [], .mv (.v 3)⟩,
  ⟨some 21, none, none, .objs [], .cv .i64 (.v 20)⟩,
  ⟨some 22, none, none, .objs [], .call (.c (.fn (.func 16) [] [])) [(.v 19), (.v 21)]⟩,
  ⟨some 17, none, none, .objs [], .mv (.v 22)⟩,
  ⟨some 23, none, none, .objs [], .ex (.v 17) 0⟩,
  ⟨some 24, none, none, .objs [], .ex (.v 17) 1⟩,
  ⟨some 9, none, none, .objs [], .mv (.v 23)⟩,
  ⟨some 10, none, none, .objs [], .mv (.v 24)⟩])) <| mkC [0, 1, 2, 3, 9, 10] <|
  .seq (.ops ([
  ⟨some 26, none, none, .objs [], .mv (.v 2)⟩,
  ⟨some 27, none, none, .objs [], .cv .i64 (.v 26)⟩,
  ⟨some 28, none, none, .objs [], .mv (.v 1)⟩,
  ⟨some 29, none, none, .objs [], .call (.c (.fn (.func 17) [] [])) [(.v 27), (.v 28)]⟩,
  ⟨some 25, none, none, .objs [], .mv (.v 29)⟩,
  ⟨some 30, none, none, .objs [], .ex (.v 25) 0⟩,
  ⟨some 31, none, none, .objs [], .ex (.v 25) 1⟩,
  ⟨some 11, none, none, .objs [], .mv (.v 30)⟩,
  ⟨some 12, none, none, .objs [], .mv (.v 31)⟩])) <|
  .seq (.seq (.ops ([
  ⟨some 32, none, none, .objs [], .mv (.v 10)⟩,
  ⟨some 33, none, none, .objs [], .bin .neq false (.v 32) (.c (.sc (.int .i64 0)))⟩,
  ⟨some 34, none, none, .objs [], .mv (.v 33)⟩,
  ⟨some 35, some (34, false), none, .objs [], .mv (.v 9)⟩,
  ⟨some 36, some (34, false), none, .objs [], .mv (.v 2)⟩] ++ mkL [0, 1, 2, 3, 11, 12, 34, 35, 36] ([
  ⟨some 37, some (34, false), none, .objs [], .cv .i64 (.v 36)⟩,
  ⟨some 38, some (34, false), none, .objs [], .mv (.v 3)⟩,
  ⟨some 39, some (34, false), none, .objs [], .cv .i64 (.v 38)⟩,
  ⟨some 40, some (34, false), none, .objs [], .call (.c (.fn (.func 18) [] [])) [(.v 37), (.v 39)]⟩,
  ⟨some 41, some (34, false), none, .objs [], .bin .neq false (.v 35) (.v 40)⟩,
  ⟨some 42, none, none, .objs [], .pk (.v 34) (.c (.sc (.bool true))) (.v 41)⟩,
  ⟨some 43, none, none, .objs [], .mv (.v 42)⟩,
  ⟨some 44, some (43, false), none, .objs [], .mv (.v 12)⟩,
  ⟨some 45, some (43, false), none, .objs [], .bin .neq false (.v 44) (.c (.sc (.int .i64 0)))⟩,
  ⟨some 46, none, none, .objs [], .pk (.v 43) (.c (.sc (.bool true))) (.v 45)⟩,
  ⟨some 47, none, none, .objs [], .mv (.v 46)⟩,
  ⟨some 48, some (47, false), none, .objs [], .mv (.v 11)⟩,
  ⟨some 49, some (47, false), none, .objs [], .mv (.v 2)⟩,
  ⟨some 50, some (47, false), none, .objs [], .cv .i64 (.v 49)⟩] ++ mkL [0, 1, 2, 3, 47, 48, 50] ([
  ⟨some 51, some (47, false), none, .objs [], .mv (.v 1)⟩,
  ⟨some 52, some (47, false), none, .objs [], .call (.c (.fn (.func 19) [] [])) [(.v 50), (.v 51)]⟩,
  ⟨some 53, some (47, false), none, .objs [], .bin .neq false (.v 48) (.v 52)⟩,
  ⟨some 54, none, none, .objs [], .pk (.v 47) (.c (.sc (.bool true))) (.v 53)⟩])))) <|
  .cond (.v 54) (.seq (.ops ([
    ⟨some 8, none, none, .objs [], .mv (.c (.sc (.bool false)))⟩])) <|
    .ret) (.nop)) <|
  .seq (.ops ([
  ⟨some 56, none, none, .objs [], .mv (.v 0)⟩,
  ⟨some 57, none, none, .objs [], .mv (.v 3)⟩,
  ⟨some 58, none, none, .objs [], .cv .i64 (.v 57)⟩,
  ⟨some 59, none, none, .objs [], .call (.c (.fn (.func 16) [] [])) [(.v 56), (.v 58)]⟩,
  ⟨some 55, none, none, .objs [], .mv (.v 59)⟩,
  ⟨some 60, none, none, .objs [], .ex (.v 55) 0⟩,
  ⟨some 61, none, none, .objs [], .ex (.v 55) 1⟩,
  ⟨some 9, none, none, .objs [], .mv (.v 60)⟩,
  ⟨some 10, none, none, .objs [], .mv (.v 61)⟩])) <| mkC [0, 1, 2, 9, 10] <|
  .seq (.ops ([
  ⟨some 63, none, none, .objs [], .mv (.v 2)⟩,
  ⟨some 64, none, none, .objs [], .cv .i64 (.v 63)⟩,
  ⟨some 65, none, none, .objs [], .mv (.v 1)⟩,
  ⟨some 66, none, none, .objs [], .call (.c (.fn (.func 16) [] [])) [(.v 64), (.v 65)]⟩,
  ⟨some 62, none, none, .objs [], .mv (.v 66)⟩,
  ⟨some 67, none, none, .objs [], .ex (.v 62) 0⟩,
  ⟨some 68, none, none, .objs [], .ex (.v 62) 1⟩,
  ⟨some 11, none, none, .objs [], .mv (.v 67)⟩,
  ⟨some 12, none, none, .objs [], .mv (.v 68)⟩])) <|
  .seq (.ops ([
  ⟨some 70, none, none, .objs [], .mv (.v 0)⟩,
  ⟨some 71, none, none, .objs [], .mv (.v 1)⟩,
  ⟨some 72, none, none, .objs [], .call (.c (.fn (.func 17) [] [])) [(.v 70), (.v 71)]⟩,
  ⟨some 69, none, none, .objs [], .mv (.v 72)⟩,
  ⟨some 73, none, none, .objs [], .ex (.v 69) 0⟩] ++ mkL [0, 1, 9, 10, 11, 12, 69, 73] ([
  ⟨some 74, none, none, .objs [], .ex (.v 69) 1⟩,
  ⟨some 13, none, none, .objs [], .mv (.v 73)⟩,
  ⟨some 14, none, none, .objs [], .mv (.v 74)⟩]))) <|
  .seq (.seq (.ops ([
  ⟨some 75, none, none, .objs [], .mv (.v 0)⟩,
  ⟨some 76, none, none, .objs [], .call (.c (.fn (.func 20) [] [])) [(.v 75)]⟩,
  ⟨some 77, none, none, .objs [], .nt (.v 76)⟩,
  ⟨some 78, none, none, .objs [], .mv (.v 77)⟩,
  ⟨some 79, some (78, true), none, .objs [], .mv (.v 10)⟩,
  ⟨some 80, some (78, true), none, .objs [], .bin .neq false (.v 79) (.c (.sc (.int .i64 2)))⟩,
  ⟨some 81, some (78, true), none, .objs [], .mv (.v 80)⟩,
  ⟨some 82, some (81, false), none, .objs [], .mv (.v 9)⟩,
  ⟨some 83, some (81, false), none, .objs [], .bin .neq false (.v 82) (.c (.sc (.int .i64 0)))⟩,
  ⟨some 84, some (78, true), none, .objs [], .pk (.v 81) (.c (.sc (.bool true))) (.v 83)⟩,
  ⟨some 85, some (78, true), none, .objs [], .mv (.v 84)⟩] ++ mkL [1, 11, 12, 13, 14, 78, 85] ([
  ⟨some 86, some (85, false), none, .objs [], .mv (.v 14)⟩,
  ⟨some 87, some (85, false), none, .objs [], .bin .neq false (.v 86) (.c (.sc (.int .i64 2)))⟩,
  ⟨some 88, some (78, true), none, .objs [], .pk (.v 85) (.c (.sc (.bool true))) (.v 87)⟩,
  ⟨some 89, some (78, true), none, .objs [], .mv (.v 88)⟩,
  ⟨some 90, some (89, false), none, .objs [], .mv (.v 13)⟩,
  ⟨some 91, some (89, false), none, .objs [], .bin .neq false (.v 90) (.c (.sc (.int .i64 0)))⟩,
  ⟨some 92, some (78, true), none, .objs [], .pk (.v 89) (.c (.sc (.bool true))) (.v 91)⟩,
  ⟨some 93, none, none, .objs [], .pk (.v 78) (.v 92) (.c (.sc (.bool false)))⟩]))) <|
  .cond (.v 93) (.seq (.ops ([
    ⟨some 8, none, none, .objs [], .mv (.c (.sc (.bool false)))⟩])) <|
    .ret) (.nop)) <|
  .seq (.ops ([
  ⟨some 94, none, none, .objs [], .mv (.v 1)⟩,
  ⟨some 95, none, none, .objs [], .call (.c (.fn (.func 20) [] [])) [(.v 94)]⟩,
  ⟨some 96, none, none, .objs [], .mv (.v 95)⟩,
  ⟨some 97, some (96, false), none, .objs [], .mv (.v 12)⟩,
  ⟨some 98, some (96, false), none, .objs [], .bin .eql false (.v 97) (.c (.sc (.int .i64 2)))⟩] ++ mkL [11, 96, 98] ([
  ⟨some 99, some (96, false), none, .objs [], .mv (.v 98)⟩,
  ⟨some 100, some (99, true), none, .objs [], .mv (.v 11)⟩,
  ⟨some 101, some (99, true), none, .objs [], .bin .eql false (.v 100) (.c (.sc (.int .i64 0)))⟩,
  ⟨some 102, some (96, false), none, .objs [], .pk (.v 99) (.v 101) (.c (.sc (.bool false)))⟩,
  ⟨some 103, none, none, .objs [], .pk (.v 96) (.c (.sc (.bool true))) (.v 102)⟩,
  ⟨some 8, none, none, .objs [], .mv (.v 103)⟩]))) <|
  .ret

theorem il3_eq : cFn Try.prog pol 3 = some ⟨104, il3c, [(8, none)]⟩ := by kernel_rfl

noncomputable def il4l0b : C :=
  .seq (.ops ([
  ⟨some 87, none, none, .objs [], .bin .lss false (.v 86) (.v 85)⟩])) <|
  .seq (.cond (.v 87) (.nop) (.exit 2)) <|
  .seq (.block 3 (.seq (.ops ([
    ⟨some 88, none, none, .objs [], .mv (.v 86)⟩,
    ⟨some 89, none, none, .objs [], .iaS 6 (.v 84) (.v 86)⟩,
    ⟨some 90, none, none, .objs [], .ld true 6 (.v 89)⟩,
    ⟨some 15, none, none, .objs [], .nw 6 (.agg [(.sc (.int .i64 0)), (.sc (.int .i64 0)), (.sc (.int .i64 0)), (.sc (.int .i64 0)), (.sc (.int .i64 0)), (.sc (.slice none 0 0))])⟩,
    ⟨some 14, none, none, .objs [], .mv (.v 88)⟩,
    ⟨none, none, none, .objs [], .st 6 (.v 15) (.v 90)⟩])) <|
    .seq (.opsD [] ([
    ⟨some 91, none, none, .objs [], .fa 0 (.v 15)⟩,
    ⟨some 92, none, none, .objs [(.v 91)], .ld true 5 (.v 91)⟩,
    ⟨some 93, none, none, .objs [(.v 11)], .ld true 5 (.v 11)⟩,
    ⟨some 94, none, none, .objs [], .raw (opOf Try.prog 4 18 3)⟩,
    ⟨some 95, none, none, .objs [], .mv (.v 94)⟩,
    ⟨some 96, some (95, false), none, .objs [], .fa 5 (.v 15)⟩,
    ⟨some 97, some (95, false), none, .objs [(.v 96)], .ld false 1 (.v 96)⟩] ++ mkL [1, 11, 14, 34, 35, 84, 85, 86, 95, 97] ([
    ⟨some 98, some (95, false), none, .objs [], .mv (.v 1)⟩,
    ⟨some 99, some (95, false), none, .objs [], .mv (.v 14)⟩,
    ⟨some 100, some (95, false), none, .objs [], .iaS 1 (.v 98) (.v 99)⟩,
    ⟨some 101, some (95, false), none, .objs [(.v 100)], .ld false 1 (.v 100)⟩,
    ⟨some 102, some (95, false), none, .cal (.c (.fn (.func 22) [] [])) [(.v 97), (.v 101)], .call (.c (.fn (.func 22) [] [])) [(.v 97), (.v 101)]⟩,
    ⟨some 103, some (95, false), none, .objs [], .nt (.v 102)⟩,
    ⟨some 104, none, none, .objs [], .pk (.v 95) (.c (.sc (.bool true))) (.v 103)⟩]))) <|
    .cond (.v 104) (.seq (.ops ([
      ⟨some 8, none, none, .objs [], .mv (.c (.sc (.bool false)))⟩])) <|
      .ret) (.nop))) <|
  .ops ([
  ⟨some 105, none, none, .objs [], .bin .add false (.v 86) (.c (.sc (.int .i64 1)))⟩,
  ⟨some 86, none, none, .objs [], .mv (.v 105)⟩])
noncomputable def il4l0 : C := il4l0b
theorem il4l0_go {P : Program} {pol : Pol} {K : Oracle} {I : Inl} {n : Nat} {f : FuncId} {R : Xit → FEnv → Heap → Prop} {e : FEnv} {h : Heap} : wc P pol K I n f il4l0 R e h = wc P pol K I n f il4l0b R e h := (fun x => x) rfl

noncomputable def il4l1b : C :=
  .seq (.ops ([
  ⟨some 36, none, none, .objs [], .bin .lss false (.v 35) (.c (.sc (.int .i64 2)))⟩])) <|
  .seq (.cond (.v 36) (.nop) (.exit 0)) <|
  .seq (.block 1 (.seq (.ops ([
    ⟨some 37, none, none, .objs [], .ixA true 5 2 5 (.v 34) (.v 35)⟩,
    ⟨some 11, none, none, .objs [], .nw 5 (.agg [(.sc (.int .i64 0)), (.sc (.int .i64 0)), (.sc (.int .i64 0)), (.sc (.int .i64 0)), (.sc (.int .i64 0))])⟩,
    ⟨none, none, none, .objs [], .st 5 (.v 11) (.v 37)⟩])) <|
    .seq (.ops ([
    ⟨some 39, none, none, .objs [], .ld true 5 (.v 11)⟩,
    ⟨some 40, none, none, .objs [], .mv (.v 1)⟩,
    ⟨some 41, none, none, .objs [], .call (.c (.fn (.func 21) [] [])) [(.v 39), (.v 40)]⟩,
    ⟨some 38, none, none, .objs [], .mv (.v 41)⟩,
    ⟨some 42, none, none, .objs [], .ex (.v 38) 0⟩,
    ⟨some 43, none, none, .objs [], .ex (.v 38) 1⟩,
    ⟨some 12, none, none, .objs [], .mv (.v 42)⟩,
    ⟨some 13, none, none, .objs [], .mv (.v 43)⟩])) <|
    .seq (.seq (.ops ([
    ⟨some 44, none, none, .objs [], .fa 0 (.v 11)⟩,
    ⟨some 45, none, none, .objs [], .ld false 1 (.v 44)⟩] ++ mkL [1, 11, 12, 13, 34, 35, 45] ([
    ⟨some 46, none, none, .objs [], .bin .lss false (.v 45) (.c (.sc (.int .i64 1)))⟩,
    ⟨some 47, none, none, .objs [], .mv (.v 46)⟩,
    ⟨some 48, some (47, false), none, .objs [], .fa 0 (.v 11)⟩,
    ⟨some 49, some (47, false), none, .objs [], .ld false 1 (.v 48)⟩,
    ⟨some 50, some (47, false), none, .objs [], .bin .gtr false (.v 49) (.c (.sc (.int .i64 4095)))⟩,
    ⟨some 51, none, none, .objs [], .pk (.v 47) (.c (.sc (.bool true))) (.v 50)⟩,
    ⟨some 52, none, none, .objs [], .mv (.v 51)⟩,
    ⟨some 53, some (52, false), none, .objs [], .fa 1 (.v 11)⟩,
    ⟨some 54, some (52, false), none, .objs [], .ld false 1 (.v 53)⟩,
    ⟨some 55, some (52, false), none, .objs [], .call (.c (.fn (.func 20) [] [])) [(.v 54)]⟩,
    ⟨some 56, some (52, false), none, .objs [], .nt (.v 55)⟩,
    ⟨some 57, none, none, .objs [], .pk (.v 52) (.c (.sc (.bool true))) (.v 56)⟩,
    ⟨some 58, none, none, .objs [], .mv (.v 57)⟩,
    ⟨some 59, some (58, false), none, .objs [], .mv (.v 1)⟩] ++ mkL [1, 11, 12, 13, 34, 35, 58, 59] ([
    ⟨some 60, some (58, false), none, .objs [], .lenS (.v 59)⟩,
    ⟨some 61, some (58, false), none, .objs [], .bin .lss false (.v 60) (.c (.sc (.int .i64 1)))⟩,
    ⟨some 62, none, none, .objs [], .pk (.v 58) (.c (.sc (.bool true))) (.v 61)⟩,
    ⟨some 63, none, none, .objs [], .mv (.v 62)⟩,
    ⟨some 64, some (63, false), none, .objs [], .mv (.v 1)⟩,
    ⟨some 65, some (63, false), none, .objs [], .lenS (.v 64)⟩,
    ⟨some 66, some (63, false), none, .objs [], .bin .gtr false (.v 65) (.c (.sc (.int .i64 2)))⟩,
    ⟨some 67, none, none, .objs [], .pk (.v 63) (.c (.sc (.bool true))) (.v 66)⟩])))) <|
    .cond (.v 67) (.seq (.seq (.ops ([
      ⟨some 68, none, none, .objs [], .mv (.v 13)⟩,
      ⟨some 69, none, none, .objs [], .bin .neq false (.v 68) (.c (.sc (.int .i64 2)))⟩,
      ⟨some 70, none, none, .objs [], .mv (.v 69)⟩,
      ⟨some 71, some (70, false), none, .objs [], .mv (.v 12)⟩,
      ⟨some 72, some (70, false), none, .objs [], .lenS (.v 71)⟩,
      ⟨some 73, some (70, false), none, .objs [], .bin .gtr false (.v 72) (.c (.sc (.int .i64 0)))⟩] ++ mkL [1, 34, 35, 70, 73] ([
      ⟨some 74, none, none, .objs [], .pk (.v 70) (.c (.sc (.bool true))) (.v 73)⟩]))) <|
      .cond (.v 74) (.seq (.ops ([
        ⟨some 8, none, none, .objs [], .mv (.c (.sc (.bool false)))⟩])) <|
        .ret) (.nop)) <|
      .exit 1) (.nop)) <|
    .seq (.seq (.ops ([
    ⟨some 75, none, none, .objs [], .mv (.v 13)⟩,
    ⟨some 76, none, none, .objs [], .bin .neq false (.v 75) (.c (.sc (.int .i64 0)))⟩,
    ⟨some 77, none, none, .objs [], .mv (.v 76)⟩,
    ⟨some 78, some (77, false), none, .objs [], .mv (.v 12)⟩,
    ⟨some 79, some (77, false), none, .objs [], .lenS (.v 78)⟩,
    ⟨some 80, some (77, false), none, .objs [], .mv (.v 1)⟩] ++ mkL [1, 11, 12, 34, 35, 77, 79, 80] ([
    ⟨some 81, some (77, false), none, .objs [], .lenS (.v 80)⟩,
    ⟨some 82, some (77, false), none, .objs [], .bin .neq false (.v 79) (.v 81)⟩,
    ⟨some 83, none, none, .objs [], .pk (.v 77) (.c (.sc (.bool true))) (.v 82)⟩]))) <|
    .cond (.v 83) (.seq (.ops ([
      ⟨some 8, none, none, .objs [], .mv (.c (.sc (.bool false)))⟩])) <|
      .ret) (.nop)) <|
    .seq (.ops ([
    ⟨some 84, none, none, .objs [], .mv (.v 12)⟩,
    ⟨some 85, none, none, .objs [], .lenS (.v 84)⟩,
    ⟨some 86, none, none, .objs [], .mv (.c (.sc (.int .i64 0)))⟩])) <|
    .block 2 (.loop (some [1, 11, 34, 35, 84, 85, 86]) il4l0))) <|
  .ops ([
  ⟨some 106, none, none, .objs [], .bin .add false (.v 35) (.c (.sc (.int .i64 1)))⟩,
  ⟨some 35, none, none, .objs [], .mv (.v 106)⟩])
noncomputable def il4l1 : C := il4l1b
theorem il4l1_go {P : Program} {pol : Pol} {K : Oracle} {I : Inl} {n : Nat} {f : FuncId} {R : Xit → FEnv → Heap → Prop} {e : FEnv} {h : Heap} : wc P pol K I n f il4l1 R e h = wc P pol K I n f il4l1b R e h := (fun x => x) rfl

/-- isochron/isochronlaw39.SeqCopies -/
noncomputable def il4c : C :=
  .seq (.ops ([
  ⟨some 4, none, none, .objs [], .bx false (.v 0)⟩,
  ⟨some 8, none, none, .objs [], .mv (.c (.sc (.bool false)))⟩])) <|
  .seq (.seq (.ops ([
  ⟨some 16, none, none, .objs [], .call (.c (.fn (.func 15) [] [])) []⟩,
  ⟨some 17, none, none, .objs [], .nt (.v 16)⟩])) <|
  .cond (.v 17) (.seq (.ops ([
    ⟨some 8, none, none, .objs [], .mv (.c (.sc (.bool false)))⟩])) <|
    .ret) (.nop)) <|
  .seq (.ops ([
  ⟨some 18, none, none, .objs [], .mv (.v 1)⟩,
  ⟨some 19, none, none, .objs [], .mv (.v 1)⟩,
  ⟨some 20, none, none, .objs [], .lenS (.v 19)⟩,
  ⟨some 21, none, none, .objs [], .mnx false (.v 20) (.c (.sc (.int .i64 4)))⟩,
  ⟨some 22, none, none, .objs [], .sl 1 (.v 18) none (some (.v 21)) none⟩,
  ⟨some 1, none, none, .objs [], .mv (.v 22)⟩])) <|
  .seq (.ops ([
  ⟨some 23, none, none, .objs [], .ld true 5 (.v 4)⟩,
  ⟨some 9, none, none, .objs [], .nw 5 (.agg [(.sc (.int .i64 0)), (.sc (.int .i64 0)), (.sc (.int .i64 0)), (.sc (.int .i64 0)), (.sc (.int .i64 0))])⟩,
  ⟨none, none, none, .objs [], .st 5 (.v 9) (.v 23)⟩])) <| mkC [1, 2, 3, 4, 9] <|
  .seq (.ops ([
  ⟨some 24, none, none, .objs [], .mv (.v 2)⟩,
  ⟨some 25, none, none, .objs [], .bin .rem false (.v 24) (.c (.sc (.int .u16 4095)))⟩,
  ⟨some 26, none, none, .objs [], .cv .i64 (.v 25)⟩,
  ⟨some 27, none, none, .objs [], .bin .add false (.c (.sc (.int .i64 1))) (.v 26)⟩,
  ⟨some 28, none, none, .objs [], .mv (.v 3)⟩,
  ⟨some 29, none, none, .objs [], .cv .i64 (.v 28)⟩,
  ⟨some 30, none, none, .objs [], .fa 0 (.v 9)⟩,
  ⟨none, none, none, .objs [], .st 1 (.v 30) (.v 27)⟩,
  ⟨some 31, none, none, .objs [], .fa 1 (.v 9)⟩,
  ⟨none, none, none, .objs [], .st 1 (.v 31) (.v 29)⟩])) <|
  .seq (.seq (.ops ([
  ⟨some 32, none, none, .objs [], .ld true 5 (.v 4)⟩,
  ⟨some 33, none, none, .objs [], .ld true 5 (.v 9)⟩,
  ⟨some 34, none, none, .objs [], .bd [(.sc (.int .i64 0)), (.sc (.int .i64 0)), (.sc (.int .i64 0)), (.sc (.int .i64 0)), (.sc (.int .i64 0)), (.sc (.int .i64 0)), (.sc (.int .i64 0)), (.sc (.int .i64 0)), (.sc (.int .i64 0)), (.sc (.int .i64 0))] [(0, 5, (.v 32)), (5, 5, (.v 33))]⟩,
  ⟨some 35, none, none, .objs [], .mv (.c (.sc (.int .i64 0)))⟩])) <| mkC [1, 34, 35] <|
  .block 0 (.loop (some [1, 34, 35]) il4l1)) <|
  .seq (.ops ([
  ⟨some 8, none, none, .objs [], .mv (.c (.sc (.bool true)))⟩])) <|
  .ret

theorem il4_eq : cFn Try.prog pol 4 = some ⟨107, il4c, [(8, none)]⟩ := by kernel_rfl
theorem raw4_18_3 {e : FEnv} {h : Heap} : iStep Try.prog pol 4 e h (.raw (opOf Try.prog 4 18 3)) = vOf h (binE Try.prog true 31 (.tmp 92) (.tmp 93) (Src.get e (.v 92)) (Src.get e (.v 93))) := raw_neq (x := (.tmp 92)) (y := (.tmp 93)) (s := 31) (by kernel_rfl)

noncomputable def il5l0b : C :=
  .seq (.ops ([
  ⟨some 29, none, none, .objs [], .bin .lss false (.v 28) (.v 27)⟩])) <|
  .seq (.cond (.v 29) (.nop) (.exit 0)) <|
  .seq (.block 1 (.seq (.ops ([
    ⟨some 30, none, none, .objs [], .iaS 2 (.v 26) (.v 28)⟩,
    ⟨some 31, none, none, .objs [], .ld true 2 (.v 30)⟩,
    ⟨some 8, none, none, .objs [], .nw 2 (.agg [(.sc (.int .i64 0)), (.sc (.int .i64 0))])⟩,
    ⟨none, none, none, .objs [], .st 2 (.v 8) (.v 31)⟩])) <|
    .ops ([
    ⟨some 32, none, none, .objs [], .mv (.v 6)⟩,
    ⟨some 33, none, none, .objs [], .fa 0 (.v 8)⟩,
    ⟨some 34, none, none, .objs [], .ld false 1 (.v 33)⟩,
    ⟨some 35, none, none, .objs [], .fa 1 (.v 8)⟩,
    ⟨some 36, none, none, .objs [], .ld false 1 (.v 35)⟩,
    ⟨none, none, none, .objs [], .raw (opOf Try.prog 5 8 5)⟩]))) <|
  .ops ([
  ⟨some 37, none, none, .objs [], .bin .add false (.v 28) (.c (.sc (.int .i64 1)))⟩,
  ⟨some 28, none, none, .objs [], .mv (.v 37)⟩])
noncomputable def il5l0 : C := il5l0b
theorem il5l0_go {P : Program} {pol : Pol} {K : Oracle} {I : Inl} {n : Nat} {f : FuncId} {R : Xit → FEnv → Heap → Prop} {e : FEnv} {h : Heap} : wc P pol K I n f il5l0 R e h = wc P pol K I n f il5l0b R e h := (fun x => x) rfl

noncomputable def il5l1b : C :=
  .seq (.ops ([
  ⟨some 45, none, none, .objs [], .bin .lss false (.v 44) (.v 43)⟩])) <|
  .seq (.cond (.v 45) (.nop) (.exit 2)) <|
  .seq (.block 3 (.seq (.ops ([
    ⟨some 46, none, none, .objs [], .iaS 1 (.v 42) (.v 44)⟩,
    ⟨some 47, none, none, .objs [], .ld false 1 (.v 46)⟩,
    ⟨some 10, none, none, .objs [], .mv (.v 47)⟩])) <|
    .seq (.ops ([
    ⟨some 48, none, none, .objs [], .mv (.v 10)⟩,
    ⟨some 49, none, none, .objs [], .bin .rem false (.v 48) (.c (.sc (.int .u8 20)))⟩,
    ⟨some 50, none, none, .objs [], .cv .i64 (.v 49)⟩,
    ⟨some 51, none, none, .objs [], .bin .mul false (.v 50) (.c (.sc (.int .i64 100)))⟩,
    ⟨some 52, none, none, .objs [], .bin .add false (.c (.sc (.int .i64 1))) (.v 51)⟩,
    ⟨some 11, none, none, .objs [], .mv (.v 52)⟩])) <|
    .seq (.ops ([
    ⟨some 54, none, none, .objs [], .mv (.v 5)⟩,
    ⟨some 55, none, none, .objs [], .mv (.v 11)⟩,
    ⟨some 56, none, none, .objs [], .call (.c (.fn (.func 24) [] [])) [(.v 54), (.v 55)]⟩,
    ⟨some 53, none, none, .objs [], .mv (.v 56)⟩] ++ mkL [5, 6, 11, 42, 43, 44, 53] ([
    ⟨some 57, none, none, .objs [], .ex (.v 53) 0⟩,
    ⟨some 58, none, none, .objs [], .ex (.v 53) 1⟩,
    ⟨some 59, none, none, .objs [], .ex (.v 53) 2⟩,
    ⟨some 12, none, none, .objs [], .mv (.v 57)⟩,
    ⟨some 13, none, none, .objs [], .mv (.v 58)⟩,
    ⟨some 14, none, none, .objs [], .mv (.v 59)⟩]))) <|
    .seq (.seq (.ops ([
    ⟨some 61, none, none, .objs [], .mv (.v 6)⟩,
    ⟨some 62, none, none, .objs [], .mv (.v 11)⟩,
    ⟨some 63, none, none, .objs [], .raw (opOf Try.prog 5 15 2)⟩,
    ⟨some 60, none, none, .objs [], .mv (.v 63)⟩,
    ⟨some 64, none, none, .objs [], .ex (.v 60) 0⟩,
    ⟨some 65, none, none, .objs [], .ex (.v 60) 1⟩,
    ⟨some 15, none, none, .objs [], .mv (.v 64)⟩,
    ⟨some 16, none, none, .objs [], .mv (.v 65)⟩])) <| mkC [5, 6, 11, 12, 13, 14, 16, 42, 43, 44] <|
    .seq (.ops ([
    ⟨some 66, none, none, .objs [], .mv (.v 16)⟩,
    ⟨some 67, none, none, .objs [], .nt (.v 66)⟩,
    ⟨some 68, none, none, .objs [], .mv (.v 67)⟩,
    ⟨some 69, some (68, true), none, .objs [], .mv (.v 6)⟩,
    ⟨some 70, some (68, true), none, .objs [], .raw (opOf Try.prog 5 16 4)⟩,
    ⟨some 71, some (68, true), none, .objs [], .bin .eql false (.v 70) (.c (.sc (.int .i64 12)))⟩,
    ⟨some 72, none, none, .objs [], .pk (.v 68) (.v 71) (.c (.sc (.bool false)))⟩])) <|
    .cond (.v 72) (.seq (.seq (.ops ([
      ⟨some 73, none, none, .objs [], .mv (.v 14)⟩,
      ⟨some 74, none, none, .objs [], .bin .neq false (.v 73) (.c (.sc (.int .i64 7)))⟩])) <|
      .cond (.v 74) (.seq (.ops ([
        ⟨some 4, none, none, .objs [], .mv (.c (.sc (.bool false)))⟩])) <|
        .ret) (.nop)) <|
      .exit 3) (.nop)) <|
    .seq (.seq (.ops ([
    ⟨some 75, none, none, .objs [], .mv (.v 14)⟩,
    ⟨some 76, none, none, .objs [], .bin .neq false (.v 75) (.c (.sc (.int .i64 0)))⟩,
    ⟨some 77, none, none, .objs [], .mv (.v 76)⟩,
    ⟨some 78, some (77, false), none, .objs [], .mv (.v 13)⟩] ++ mkL [6, 11, 12, 13, 42, 43, 44, 77, 78] ([
    ⟨some 79, some (77, false), none, .objs [], .mv (.v 6)⟩,
    ⟨some 80, some (77, false), none, .objs [], .mv (.v 11)⟩,
    ⟨some 81, some (77, false), none, .objs [], .raw (opOf Try.prog 5 19 6)⟩,
    ⟨some 82, some (77, false), none, .objs [], .bin .neq false (.v 78) (.v 81)⟩,
    ⟨some 83, none, none, .objs [], .pk (.v 77) (.c (.sc (.bool true))) (.v 82)⟩,
    ⟨some 84, none, none, .objs [], .mv (.v 83)⟩,
    ⟨some 85, some (84, false), none, .objs [], .mv (.v 12)⟩,
    ⟨some 86, some (84, false), none, .objs [], .call (.c (.fn (.func 25) [] [])) [(.v 85)]⟩,
    ⟨some 87, some (84, false), none, .objs [], .bin .neq false (.v 86) (.c (.sc (.int .i64 0)))⟩,
    ⟨some 88, none, none, .objs [], .pk (.v 84) (.c (.sc (.bool true))) (.v 87)⟩]))) <|
    .cond (.v 88) (.seq (.ops ([
      ⟨some 4, none, none, .objs [], .mv (.c (.sc (.bool false)))⟩])) <|
      .ret) (.nop)) <|
    .seq (.ops ([
    ⟨some 89, none, none, .objs [], .mv (.v 12)⟩,
    ⟨some 5, none, none, .objs [], .mv (.v 89)⟩])) <|
    .ops ([
    ⟨some 90, none, none, .objs [], .mv (.v 6)⟩] ++ mkL [5, 6, 11, 13, 42, 43, 44, 90] ([
    ⟨some 91, none, none, .objs [], .mv (.v 11)⟩,
    ⟨some 92, none, none, .objs [], .mv (.v 13)⟩,
    ⟨some 93, none, none, .objs [], .bin .add false (.v 92) (.c (.sc (.int .i64 1)))⟩,
    ⟨some 94, none, none, .objs [], .bin .rem false (.v 93) (.c (.sc (.int .i64 65536)))⟩,
    ⟨none, none, none, .objs [], .raw (opOf Try.prog 5 22 5)⟩])))) <|
  .ops ([
  ⟨some 95, none, none, .objs [], .bin .add false (.v 44) (.c (.sc (.int .i64 1)))⟩,
  ⟨some 44, none, none, .objs [], .mv (.v 95)⟩])
noncomputable def il5l1 : C := il5l1b
theorem il5l1_go {P : Program} {pol : Pol} {K : Oracle} {I : Inl} {n : Nat} {f : FuncId} {R : Xit → FEnv → Heap → Prop} {e : FEnv} {h : Heap} : wc P pol K I n f il5l1 R e h = wc P pol K I n f il5l1b R e h := (fun x => x) rfl

noncomputable def il5l2b : C :=
  .seq (.ops ([
  ⟨some 104, none, none, .objs [], .bin .lss false (.v 103) (.v 102)⟩])) <|
  .seq (.cond (.v 104) (.nop) (.exit 4)) <|
  .seq (.block 5 (.seq (.ops ([
    ⟨some 105, none, none, .objs [], .iaS 2 (.v 101) (.v 103)⟩,
    ⟨some 106, none, none, .objs [], .ld true 2 (.v 105)⟩,
    ⟨some 18, none, none, .objs [], .nw 2 (.agg [(.sc (.int .i64 0)), (.sc (.int .i64 0))])⟩,
    ⟨none, none, none, .objs [], .st 2 (.v 18) (.v 106)⟩])) <|
    .seq (.ops ([
    ⟨some 108, none, none, .objs [], .mv (.v 6)⟩,
    ⟨some 109, none, none, .objs [], .fa 0 (.v 18)⟩,
    ⟨some 110, none, none, .objs [], .ld false 1 (.v 109)⟩,
    ⟨some 111, none, none, .objs [], .raw (opOf Try.prog 5 29 3)⟩,
    ⟨some 107, none, none, .objs [], .mv (.v 111)⟩,
    ⟨some 112, none, none, .objs [], .ex (.v 107) 0⟩,
    ⟨some 113, none, none, .objs [], .ex (.v 107) 1⟩,
    ⟨some 19, none, none, .objs [], .mv (.v 112)⟩,
    ⟨some 20, none, none, .objs [], .mv (.v 113)⟩])) <| mkC [6, 18, 19, 20, 101, 102, 103] <|
    .seq (.ops ([
    ⟨some 114, none, none, .objs [], .mv (.v 20)⟩,
    ⟨some 115, none, none, .objs [], .nt (.v 114)⟩,
    ⟨some 116, none, none, .objs [], .mv (.v 115)⟩,
    ⟨some 117, some (116, false), none, .objs [], .mv (.v 19)⟩,
    ⟨some 118, some (116, false), none, .objs [], .fa 1 (.v 18)⟩,
    ⟨some 119, some (116, false), none, .objs [], .ld false 1 (.v 118)⟩,
    ⟨some 120, some (116, false), none, .objs [], .bin .neq false (.v 117) (.v 119)⟩,
    ⟨some 121, none, none, .objs [], .pk (.v 116) (.c (.sc (.bool true))) (.v 120)⟩])) <|
    .cond (.v 121) (.seq (.ops ([
      ⟨some 4, none, none, .objs [], .mv (.c (.sc (.bool false)))⟩])) <|
      .ret) (.nop))) <|
  .ops ([
  ⟨some 122, none, none, .objs [], .bin .add false (.v 103) (.c (.sc (.int .i64 1)))⟩,
  ⟨some 103, none, none, .objs [], .mv (.v 122)⟩])
noncomputable def il5l2 : C := il5l2b
theorem il5l2_go {P : Program} {pol : Pol} {K : Oracle} {I : Inl} {n : Nat} {f : FuncId} {R : Xit → FEnv → Heap → Prop} {e : FEnv} {h : Heap} : wc P pol K I n f il5l2 R e h = wc P pol K I n f il5l2b R e h := (fun x => x) rfl

/-- isochron/isochronlaw39.SeqRuns -/
noncomputable def il5c : C :=
  .seq (.ops ([
  ⟨some 4, none, none, .objs [], .mv (.c (.sc (.bool false)))⟩])) <|
  .seq (.seq (.ops ([
  ⟨some 21, none, none, .objs [], .call (.c (.fn (.func 15) [] [])) []⟩,
  ⟨some 22, none, none, .objs [], .nt (.v 21)⟩])) <|
  .cond (.v 22) (.seq (.ops ([
    ⟨some 4, none, none, .objs [], .mv (.c (.sc (.bool false)))⟩])) <|
    .ret) (.nop)) <|
  .seq (.ops ([
  ⟨some 23, none, none, .objs [], .mv (.v 0)⟩,
  ⟨some 24, none, none, .objs [], .call (.c (.fn (.func 23) [] [])) [(.v 23)]⟩,
  ⟨some 5, none, none, .objs [], .mv (.v 24)⟩])) <|
  .seq (.ops ([
  ⟨some 25, none, none, .objs [], .raw (opOf Try.prog 5 4 0)⟩,
  ⟨some 6, none, none, .objs [], .mv (.v 25)⟩])) <|
  .seq (.seq (.ops ([
  ⟨some 26, none, none, .objs [], .mv (.v 5)⟩,
  ⟨some 27, none, none, .objs [], .lenS (.v 26)⟩,
  ⟨some 28, none, none, .objs [], .mv (.c (.sc (.int .i64 0)))⟩])) <|
  .block 0 (.loop (some [1, 5, 6, 26, 27, 28]) il5l0)) <|
  .seq (.seq (.ops ([
  ⟨some 38, none, none, .objs [], .mv (.v 1)⟩,
  ⟨some 39, none, none, .objs [], .mv (.v 1)⟩,
  ⟨some 40, none, none, .objs [], .lenS (.v 39)⟩,
  ⟨some 41, none, none, .objs [], .mnx false (.v 40) (.c (.sc (.int .i64 60)))⟩,
  ⟨some 42, none, none, .objs [], .sl 1 (.v 38) none (some (.v 41)) none⟩,
  ⟨some 43, none, none, .objs [], .lenS (.v 42)⟩,
  ⟨some 44, none, none, .objs [], .mv (.c (.sc (.int .i64 0)))⟩])) <|
  .block 2 (.loop (some [5, 6, 42, 43, 44]) il5l1)) <|
  .seq (.seq (.ops ([
  ⟨some 96, none, none, .objs [], .mv (.v 5)⟩,
  ⟨some 97, none, none, .objs [], .lenS (.v 96)⟩,
  ⟨some 98, none, none, .objs [], .mv (.v 6)⟩,
  ⟨some 99, none, none, .objs [], .raw (opOf Try.prog 5 24 3)⟩,
  ⟨some 100, none, none, .objs [], .bin .neq false (.v 97) (.v 99)⟩])) <|
  .cond (.v 100) (.seq (.ops ([
    ⟨some 4, none, none, .objs [], .mv (.c (.sc (.bool false)))⟩])) <|
    .ret) (.nop)) <|
  .seq (.seq (.ops ([
  ⟨some 101, none, none, .objs [], .mv (.v 5)⟩,
  ⟨some 102, none, none, .objs [], .lenS (.v 101)⟩,
  ⟨some 103, none, none, .objs [], .mv (.c (.sc (.int .i64 0)))⟩])) <|
  .block 4 (.loop (some [6, 101, 102, 103]) il5l2)) <|
  .seq (.ops ([
  ⟨some 4, none, none, .objs [], .mv (.c (.sc (.bool true)))⟩])) <|
  .ret

theorem il5_eq : cFn Try.prog pol 5 = some ⟨123, il5c, [(4, none)]⟩ := by kernel_rfl
theorem raw5_4_0 {e : FEnv} {h : Heap} : iStep Try.prog pol 5 e h (.raw (opOf Try.prog 5 4 0)) = some (.val (.mp h.length) (h ++ [.map []])) := raw_makeMap (t := 48) (by kernel_rfl)
theorem raw5_8_5 {e : FEnv} {h : Heap} : iStep Try.prog pol 5 e h (.raw (opOf Try.prog 5 8 5)) = hOf (upV Try.prog 48 h (Src.get e (.v 32)) (Src.get e (.v 34)) (Src.get e (.v 36))) := raw_update (m := (.tmp 32)) (k := (.tmp 34)) (x := (.tmp 36)) (by kernel_rfl)
theorem raw5_15_2 {e : FEnv} {h : Heap} : iStep Try.prog pol 5 e h (.raw (opOf Try.prog 5 15 2)) = vOf h (lkV Try.prog 48 true h (Src.get e (.v 61)) (Src.get e (.v 62))) := raw_lookup (x := (.tmp 61)) (ix := (.tmp 62)) (by kernel_rfl)
-- RAW 5 16 4 builtin Go.Builtin.len [48]
theorem raw5_19_6 {e : FEnv} {h : Heap} : iStep Try.prog pol 5 e h (.raw (opOf Try.prog 5 19 6)) = vOf h (lkV Try.prog 48 false h (Src.get e (.v 79)) (Src.get e (.v 80))) := raw_lookup (x := (.tmp 79)) (ix := (.tmp 80)) (by kernel_rfl)
theorem raw5_22_5 {e : FEnv} {h : Heap} : iStep Try.prog pol 5 e h (.raw (opOf Try.prog 5 22 5)) = hOf (upV Try.prog 48 h (Src.get e (.v 90)) (Src.get e (.v 91)) (Src.get e (.v 94))) := raw_update (m := (.tmp 90)) (k := (.tmp 91)) (x := (.tmp 94)) (by kernel_rfl)
-- RAW 5 24 3 builtin Go.Builtin.len [48]
theorem raw5_29_3 {e : FEnv} {h : Heap} : iStep Try.prog pol 5 e h (.raw (opOf Try.prog 5 29 3)) = vOf h (lkV Try.prog 48 true h (Src.get e (.v 108)) (Src.get e (.v 110))) := raw_lookup (x := (.tmp 108)) (ix := (.tmp 110)) (by kernel_rfl)

/-- isochron/isochronlaw39.SeqTurns -/
noncomputable def il6c : C :=
  .seq (.ops ([
  ⟨some 8, none, none, .objs [], .mv (.c (.sc (.bool false)))⟩])) <|
  .seq (.seq (.ops ([
  ⟨some 24, none, none, .objs [], .call (.c (.fn (.func 15) [] [])) []⟩,
  ⟨some 25, none, none, .objs [], .nt (.v 24)⟩])) <|
  .cond (.v 25) (.seq (.ops ([
    ⟨some 8, none, none, .objs [], .mv (.c (.sc (.bool false)))⟩])) <|
    .ret) (.nop)) <|
  .seq (.ops ([
  ⟨some 26, none, none, .objs [], .mv (.v 0)⟩,
  ⟨some 27, none, none, .objs [], .cv .i64 (.v 26)⟩,
  ⟨some 28, none, none, .objs [], .mv (.v 1)⟩,
  ⟨some 29, none, none, .objs [], .cv .i64 (.v 28)⟩,
  ⟨some 9, none, none, .objs [], .mv (.v 27)⟩,
  ⟨some 10, none, none, .objs [], .mv (.v 29)⟩])) <|
  .seq (.ops ([
  ⟨some 31, none, none, .objs [], .mv (.v 9)⟩,
  ⟨some 32, none, none, .objs [], .mv (.v 10)⟩,
  ⟨some 33, none, none, .objs [], .call (.c (.fn (.func 16) [] [])) [(.v 31), (.v 32)]⟩,
  ⟨some 30, none, none, .objs [], .mv (.v 33)⟩] ++ mkL [2, 3, 9, 10, 30] ([
  ⟨some 34, none, none, .objs [], .ex (.v 30) 0⟩,
  ⟨some 35, none, none, .objs [], .ex (.v 30) 1⟩,
  ⟨some 11, none, none, .objs [], .mv (.v 34)⟩,
  ⟨some 12, none, none, .objs [], .mv (.v 35)⟩]))) <|
  .seq (.ops ([
  ⟨some 37, none, none, .objs [], .mv (.v 9)⟩,
  ⟨some 38, none, none, .objs [], .mv (.v 11)⟩,
  ⟨some 39, none, none, .objs [], .call (.c (.fn (.func 17) [] [])) [(.v 37), (.v 38)]⟩,
  ⟨some 36, none, none, .objs [], .mv (.v 39)⟩,
  ⟨some 40, none, none, .objs [], .ex (.v 36) 0⟩,
  ⟨some 41, none, none, .objs [], .ex (.v 36) 1⟩,
  ⟨some 13, none, none, .objs [], .mv (.v 40)⟩,
  ⟨some 14, none, none, .objs [], .mv (.v 41)⟩])) <|
  .seq (.ops ([
  ⟨some 43, none, none, .objs [], .mv (.v 9)⟩,
  ⟨some 44, none, none, .objs [], .mv (.v 2)⟩] ++ mkL [2, 3, 9, 10, 11, 12, 13, 14, 43, 44] ([
  ⟨some 45, none, none, .objs [], .cv .i64 (.v 44)⟩,
  ⟨some 46, none, none, .objs [], .call (.c (.fn (.func 17) [] [])) [(.v 43), (.v 45)]⟩,
  ⟨some 42, none, none, .objs [], .mv (.v 46)⟩,
  ⟨some 47, none, none, .objs [], .ex (.v 42) 0⟩,
  ⟨some 48, none, none, .objs [], .ex (.v 42) 1⟩,
  ⟨some 15, none, none, .objs [], .mv (.v 47)⟩,
  ⟨some 16, none, none, .objs [], .mv (.v 48)⟩]))) <|
  .seq (.ops ([
  ⟨some 50, none, none, .objs [], .mv (.v 15)⟩,
  ⟨some 51, none, none, .objs [], .mv (.v 3)⟩,
  ⟨some 52, none, none, .objs [], .cv .i64 (.v 51)⟩,
  ⟨some 53, none, none, .objs [], .call (.c (.fn (.func 17) [] [])) [(.v 50), (.v 52)]⟩,
  ⟨some 49, none, none, .objs [], .mv (.v 53)⟩,
  ⟨some 54, none, none, .objs [], .ex (.v 49) 0⟩,
  ⟨some 55, none, none, .objs [], .ex (.v 49) 1⟩] ++ mkL [2, 3, 9, 10, 11, 12, 13, 14, 15, 16, 54, 55] ([
  ⟨some 17, none, none, .objs [], .mv (.v 54)⟩,
  ⟨some 18, none, none, .objs [], .mv (.v 55)⟩]))) <|
  .seq (.ops ([
  ⟨some 57, none, none, .objs [], .mv (.v 9)⟩,
  ⟨some 58, none, none, .objs [], .mv (.v 2)⟩,
  ⟨some 59, none, none, .objs [], .cv .i64 (.v 58)⟩,
  ⟨some 60, none, none, .objs [], .mv (.v 3)⟩,
  ⟨some 61, none, none, .objs [], .cv .i64 (.v 60)⟩,
  ⟨some 62, none, none, .objs [], .bin .add false (.v 59) (.v 61)⟩,
  ⟨some 63, none, none, .objs [], .call (.c (.fn (.func 17) [] [])) [(.v 57), (.v 62)]⟩,
  ⟨some 56, none, none, .objs [], .mv (.v 63)⟩,
  ⟨some 64, none, none, .objs [], .ex (.v 56) 0⟩,
  ⟨some 65, none, none, .objs [], .ex (.v 56) 1⟩,
  ⟨some 19, none, none, .objs [], .mv (.v 64)⟩,
  ⟨some 20, none, none, .objs [], .mv (.v 65)⟩])) <| mkC [2, 9, 10, 11, 12, 13, 14, 15, 16, 17, 18, 19, 20] <|
  .seq (.ops ([
  ⟨some 67, none, none, .objs [], .mv (.v 9)⟩,
  ⟨some 68, none, none, .objs [], .mv (.v 15)⟩,
  ⟨some 69, none, none, .objs [], .call (.c (.fn (.func 16) [] [])) [(.v 67), (.v 68)]⟩,
  ⟨some 66, none, none, .objs [], .mv (.v 69)⟩,
  ⟨some 70, none, none, .objs [], .ex (.v 66) 0⟩,
  ⟨some 71, none, none, .objs [], .ex (.v 66) 1⟩,
  ⟨some 21, none, none, .objs [], .mv (.v 70)⟩,
  ⟨some 22, none, none, .objs [], .mv (.v 71)⟩])) <|
  .seq (.ops ([
  ⟨some 72, none, none, .objs [], .mv (.v 12)⟩,
  ⟨some 73, none, none, .objs [], .bin .eql false (.v 72) (.c (.sc (.int .i64 0)))⟩,
  ⟨some 74, none, none, .objs [], .mv (.v 73)⟩,
  ⟨some 75, some (74, true), none, .objs [], .mv (.v 14)⟩,
  ⟨some 76, some (74, true), none, .objs [], .bin .eql false (.v 75) (.c (.sc (.int .i64 0)))⟩,
  ⟨some 77, none, none, .objs [], .pk (.v 74) (.v 76) (.c (.sc (.bool false)))⟩] ++ mkL [2, 9, 10, 11, 13, 16, 17, 18, 19, 20, 21, 22, 77] ([
  ⟨some 78, none, none, .objs [], .mv (.v 77)⟩,
  ⟨some 79, some (78, true), none, .objs [], .mv (.v 16)⟩,
  ⟨some 80, some (78, true), none, .objs [], .bin .eql false (.v 79) (.c (.sc (.int .i64 0)))⟩,
  ⟨some 81, none, none, .objs [], .pk (.v 78) (.v 80) (.c (.sc (.bool false)))⟩,
  ⟨some 82, none, none, .objs [], .mv (.v 81)⟩,
  ⟨some 83, some (82, true), none, .objs [], .mv (.v 18)⟩,
  ⟨some 84, some (82, true), none, .objs [], .bin .eql false (.v 83) (.c (.sc (.int .i64 0)))⟩,
  ⟨some 85, none, none, .objs [], .pk (.v 82) (.v 84) (.c (.sc (.bool false)))⟩,
  ⟨some 86, none, none, .objs [], .mv (.v 85)⟩,
  ⟨some 87, some (86, true), none, .objs [], .mv (.v 20)⟩,
  ⟨some 88, some (86, true), none, .objs [], .bin .eql false (.v 87) (.c (.sc (.int .i64 0)))⟩,
  ⟨some 89, none, none, .objs [], .pk (.v 86) (.v 88) (.c (.sc (.bool false)))⟩,
  ⟨some 90, none, none, .objs [], .mv (.v 89)⟩,
  ⟨some 91, some (90, true), none, .objs [], .mv (.v 22)⟩] ++ mkL [2, 9, 10, 11, 13, 17, 19, 21, 90, 91] ([
  ⟨some 92, some (90, true), none, .objs [], .bin .eql false (.v 91) (.c (.sc (.int .i64 0)))⟩,
  ⟨some 93, none, none, .objs [], .pk (.v 90) (.v 92) (.c (.sc (.bool false)))⟩,
  ⟨some 23, none, none, .objs [], .mv (.v 93)⟩])))) <|
  .seq (.ops ([
  ⟨some 94, none, none, .objs [], .mv (.v 23)⟩,
  ⟨some 95, none, none, .objs [], .mv (.v 94)⟩,
  ⟨some 96, some (95, true), none, .objs [], .mv (.v 13)⟩,
  ⟨some 97, some (95, true), none, .objs [], .mv (.v 10)⟩,
  ⟨some 98, some (95, true), none, .objs [], .bin .eql false (.v 96) (.v 97)⟩,
  ⟨some 99, none, none, .objs [], .pk (.v 95) (.v 98) (.c (.sc (.bool false)))⟩,
  ⟨some 100, none, none, .objs [], .mv (.v 99)⟩,
  ⟨some 101, some (100, true), none, .objs [], .mv (.v 11)⟩,
  ⟨some 102, some (100, true), none, .objs [], .bin .geq false (.v 101) (.c (.sc (.int .i64 (-32768))))⟩,
  ⟨some 103, none, none, .objs [], .pk (.v 100) (.v 102) (.c (.sc (.bool false)))⟩,
  ⟨some 104, none, none, .objs [], .mv (.v 103)⟩] ++ mkL [2, 9, 10, 11, 17, 19, 21, 104] ([
  ⟨some 105, some (104, true), none, .objs [], .mv (.v 11)⟩,
  ⟨some 106, some (104, true), none, .objs [], .bin .lss false (.v 105) (.c (.sc (.int .i64 32768)))⟩,
  ⟨some 107, none, none, .objs [], .pk (.v 104) (.v 106) (.c (.sc (.bool false)))⟩,
  ⟨some 108, none, none, .objs [], .mv (.v 107)⟩,
  ⟨some 109, some (108, true), none, .objs [], .mv (.v 11)⟩,
  ⟨some 110, some (108, true), none, .objs [], .bin .eql false (.v 109) (.c (.sc (.int .i64 0)))⟩,
  ⟨some 111, some (108, true), none, .objs [], .mv (.v 9)⟩,
  ⟨some 112, some (108, true), none, .objs [], .mv (.v 10)⟩,
  ⟨some 113, some (108, true), none, .objs [], .bin .eql false (.v 111) (.v 112)⟩,
  ⟨some 114, some (108, true), none, .objs [], .bin .eql true (.v 110) (.v 113)⟩,
  ⟨some 115, none, none, .objs [], .pk (.v 108) (.v 114) (.c (.sc (.bool false)))⟩,
  ⟨some 116, none, none, .objs [], .mv (.v 115)⟩,
  ⟨some 117, some (116, true), none, .objs [], .mv (.v 17)⟩,
  ⟨some 118, some (116, true), none, .objs [], .mv (.v 19)⟩] ++ mkL [2, 21, 116, 117, 118] ([
  ⟨some 119, some (116, true), none, .objs [], .bin .eql false (.v 117) (.v 118)⟩,
  ⟨some 120, none, none, .objs [], .pk (.v 116) (.v 119) (.c (.sc (.bool false)))⟩,
  ⟨some 121, none, none, .objs [], .mv (.v 120)⟩,
  ⟨some 122, some (121, true), none, .objs [], .mv (.v 21)⟩,
  ⟨some 123, some (121, true), none, .objs [], .mv (.v 2)⟩,
  ⟨some 124, some (121, true), none, .objs [], .cv .i64 (.v 123)⟩,
  ⟨some 125, some (121, true), none, .objs [], .bin .sub false (.v 122) (.v 124)⟩,
  ⟨some 126, some (121, true), none, .objs [], .bin .rem false (.v 125) (.c (.sc (.int .i64 65536)))⟩,
  ⟨some 127, some (121, true), none, .objs [], .bin .eql false (.v 126) (.c (.sc (.int .i64 0)))⟩,
  ⟨some 128, none, none, .objs [], .pk (.v 121) (.v 127) (.c (.sc (.bool false)))⟩,
  ⟨some 8, none, none, .objs [], .mv (.v 128)⟩])))) <|
  .ret

theorem il6_eq : cFn Try.prog pol 6 = some ⟨129, il6c, [(8, none)]⟩ := by kernel_rfl

noncomputable def il8l0b : C :=
  .seq (.ops ([
  ⟨some 75, none, none, .objs [], .bin .lss false (.v 74) (.c (.sc (.int .i64 3)))⟩])) <|
  .seq (.cond (.v 75) (.nop) (.exit 2)) <|
  .seq (.block 3 (.seq (.ops ([
    ⟨some 76, none, none, .objs [], .ixA false 1 3 1 (.v 73) (.v 74)⟩,
    ⟨some 16, none, none, .objs [], .mv (.v 76)⟩])) <|
    .seq (.ops ([
    ⟨some 78, none, none, .objs [], .mv (.v 14)⟩,
    ⟨some 79, none, none, .objs [], .mv (.v 16)⟩,
    ⟨some 80, none, none, .objs [], .call (.c (.fn (.func 24) [] [])) [(.v 78), (.v 79)]⟩,
    ⟨some 77, none, none, .objs [], .mv (.v 80)⟩,
    ⟨some 81, none, none, .objs [], .ex (.v 77) 0⟩,
    ⟨some 82, none, none, .objs [], .ex (.v 77) 1⟩,
    ⟨some 83, none, none, .objs [], .ex (.v 77) 2⟩,
    ⟨some 17, none, none, .objs [], .mv (.v 81)⟩,
    ⟨some 18, none, none, .objs [], .mv (.v 82)⟩,
    ⟨some 19, none, none, .objs [], .mv (.v 83)⟩])) <|
    .seq (.ops ([
    ⟨some 85, none, none, .objs [], .mv (.v 14)⟩] ++ mkL [2, 4, 8, 14, 16, 17, 18, 19, 47, 48, 73, 74, 85] ([
    ⟨some 86, none, none, .objs [], .mv (.v 16)⟩,
    ⟨some 87, none, none, .objs [], .call (.c (.fn (.func 28) [] [])) [(.v 85), (.v 86)]⟩,
    ⟨some 84, none, none, .objs [], .mv (.v 87)⟩,
    ⟨some 88, none, none, .objs [], .ex (.v 84) 0⟩,
    ⟨some 89, none, none, .objs [], .ex (.v 84) 1⟩,
    ⟨some 90, none, none, .objs [], .ex (.v 84) 2⟩,
    ⟨some 20, none, none, .objs [], .mv (.v 88)⟩,
    ⟨some 21, none, none, .objs [], .mv (.v 89)⟩,
    ⟨some 22, none, none, .objs [], .mv (.v 90)⟩]))) <|
    .seq (.ops ([
    ⟨some 91, none, none, .objs [], .mv (.v 17)⟩,
    ⟨some 92, none, none, .objs [], .mv (.v 20)⟩,
    ⟨some 93, none, none, .objs [], .call (.c (.fn (.func 29) [] [])) [(.v 91), (.v 92)]⟩,
    ⟨some 94, none, none, .objs [], .nt (.v 93)⟩,
    ⟨some 95, none, none, .objs [], .mv (.v 94)⟩] ++ mkL [2, 4, 8, 14, 18, 19, 21, 22, 47, 48, 73, 74, 95] ([
    ⟨some 96, some (95, false), none, .objs [], .mv (.v 18)⟩,
    ⟨some 97, some (95, false), none, .objs [], .mv (.v 21)⟩,
    ⟨some 98, some (95, false), none, .objs [], .bin .neq false (.v 96) (.v 97)⟩,
    ⟨some 99, none, none, .objs [], .pk (.v 95) (.c (.sc (.bool true))) (.v 98)⟩,
    ⟨some 100, none, none, .objs [], .mv (.v 99)⟩,
    ⟨some 101, some (100, false), none, .objs [], .mv (.v 19)⟩,
    ⟨some 102, some (100, false), none, .objs [], .mv (.v 22)⟩,
    ⟨some 103, some (100, false), none, .objs [], .bin .neq false (.v 101) (.v 102)⟩,
    ⟨some 104, none, none, .objs [], .pk (.v 100) (.c (.sc (.bool true))) (.v 103)⟩]))) <|
    .cond (.v 104) (.seq (.ops ([
      ⟨some 10, none, none, .objs [], .mv (.c (.sc (.bool false)))⟩])) <|
      .ret) (.nop))) <|
  .ops ([
  ⟨some 105, none, none, .objs [], .bin .add false (.v 74) (.c (.sc (.int .i64 1)))⟩,
  ⟨some 74, none, none, .objs [], .mv (.v 105)⟩])
noncomputable def il8l0 : C := il8l0b
theorem il8l0_go {P : Program} {pol : Pol} {K : Oracle} {I : Inl} {n : Nat} {f : FuncId} {R : Xit → FEnv → Heap → Prop} {e : FEnv} {h : Heap} : wc P pol K I n f il8l0 R e h = wc P pol K I n f il8l0b R e h := (fun x => x) rfl

noncomputable def il8l1b : C :=
  .seq (.ops ([
  ⟨some 49, none, none, .objs [], .bin .lss false (.v 48) (.c (.sc (.int .i64 3)))⟩])) <|
  .seq (.cond (.v 49) (.nop) (.exit 0)) <|
  .seq (.block 1 (.seq (.ops ([
    ⟨some 50, none, none, .objs [], .ixA false 1 3 1 (.v 47) (.v 48)⟩,
    ⟨some 14, none, none, .objs [], .mv (.v 50)⟩])) <|
    .seq (.seq (.ops ([
    ⟨some 51, none, none, .objs [], .mv (.v 14)⟩,
    ⟨some 52, none, none, .objs [], .call (.c (.fn (.func 27) [] [])) [(.v 51)]⟩,
    ⟨some 53, none, none, .objs [], .mv (.v 14)⟩,
    ⟨some 54, none, none, .objs [], .call (.c (.fn (.func 25) [] [])) [(.v 53)]⟩,
    ⟨some 55, none, none, .objs [], .bin .eql false (.v 54) (.c (.sc (.int .i64 0)))⟩,
    ⟨some 56, none, none, .objs [], .bin .neq true (.v 52) (.v 55)⟩,
    ⟨some 57, none, none, .objs [], .mv (.v 56)⟩,
    ⟨some 58, some (57, false), none, .objs [], .mv (.v 14)⟩,
    ⟨some 59, some (57, false), none, .objs [], .call (.c (.fn (.func 25) [] [])) [(.v 58)]⟩,
    ⟨some 60, some (57, false), none, .objs [], .bin .neq false (.v 59) (.c (.sc (.int .i64 0)))⟩,
    ⟨some 61, some (57, false), none, .objs [], .mv (.v 60)⟩] ++ mkL [2, 4, 8, 14, 47, 48, 57, 61] ([
    ⟨some 62, some (61, true), none, .objs [], .mv (.v 14)⟩,
    ⟨some 63, some (61, true), none, .objs [], .call (.c (.fn (.func 25) [] [])) [(.v 62)]⟩,
    ⟨some 64, some (61, true), none, .objs [], .bin .neq false (.v 63) (.c (.sc (.int .i64 490)))⟩,
    ⟨some 65, some (57, false), none, .objs [], .pk (.v 61) (.v 64) (.c (.sc (.bool false)))⟩,
    ⟨some 66, none, none, .objs [], .pk (.v 57) (.c (.sc (.bool true))) (.v 65)⟩]))) <|
    .cond (.v 66) (.seq (.ops ([
      ⟨some 10, none, none, .objs [], .mv (.c (.sc (.bool false)))⟩])) <|
      .ret) (.nop)) <|
    .seq (.ops ([
    ⟨some 67, none, none, .objs [], .mv (.v 4)⟩,
    ⟨some 68, none, none, .objs [], .fa 0 (.v 8)⟩,
    ⟨some 69, none, none, .objs [], .ld false 1 (.v 68)⟩,
    ⟨some 70, none, none, .objs [], .mv (.v 2)⟩,
    ⟨some 71, none, none, .objs [], .cv .i64 (.v 70)⟩,
    ⟨some 72, none, none, .objs [], .bin .add false (.c (.sc (.int .i64 1))) (.v 71)⟩,
    ⟨some 73, none, none, .objs [], .bd [(.sc (.int .i64 0)), (.sc (.int .i64 0)), (.sc (.int .i64 0))] [(0, 1, (.v 67)), (1, 1, (.v 69)), (2, 1, (.v 72))]⟩,
    ⟨some 74, none, none, .objs [], .mv (.c (.sc (.int .i64 0)))⟩])) <| mkC [2, 4, 8, 14, 47, 48, 73, 74] <|
    .block 2 (.loop (some [2, 4, 8, 14, 47, 48, 73, 74]) il8l0))) <|
  .ops ([
  ⟨some 106, none, none, .objs [], .bin .add false (.v 48) (.c (.sc (.int .i64 1)))⟩,
  ⟨some 48, none, none, .objs [], .mv (.v 106)⟩])
noncomputable def il8l1 : C := il8l1b
theorem il8l1_go {P : Program} {pol : Pol} {K : Oracle} {I : Inl} {n : Nat} {f : FuncId} {R : Xit → FEnv → Heap → Prop} {e : FEnv} {h : Heap} : wc P pol K I n f il8l1 R e h = wc P pol K I n f il8l1b R e h := (fun x => x) rfl

/-- isochron/isochronlaw39.SeqNexts -/
noncomputable def il8c : C :=
  .seq (.ops ([
  ⟨some 8, none, none, .objs [], .bx false (.v 3)⟩,
  ⟨some 10, none, none, .objs [], .mv (.c (.sc (.bool false)))⟩])) <|
  .seq (.seq (.ops ([
  ⟨some 23, none, none, .objs [], .call (.c (.fn (.func 15) [] [])) []⟩,
  ⟨some 24, none, none, .objs [], .nt (.v 23)⟩])) <|
  .cond (.v 24) (.seq (.ops ([
    ⟨some 10, none, none, .objs [], .mv (.c (.sc (.bool false)))⟩])) <|
    .ret) (.nop)) <|
  .seq (.ops ([
  ⟨some 25, none, none, .objs [], .mv (.v 1)⟩,
  ⟨some 26, none, none, .objs [], .call (.c (.fn (.func 23) [] [])) [(.v 25)]⟩,
  ⟨some 11, none, none, .objs [], .mv (.v 26)⟩])) <|
  .seq (.ops ([
  ⟨some 27, none, none, .objs [], .mv (.v 11)⟩,
  ⟨some 28, none, none, .objs [], .call (.c (.fn (.func 26) [] [])) [(.v 27)]⟩,
  ⟨some 12, none, none, .objs [], .mv (.v 28)⟩])) <|
  .seq (.seq (.ops ([
  ⟨some 29, none, none, .objs [], .mv (.v 12)⟩,
  ⟨some 30, none, none, .objs [], .lenS (.v 29)⟩,
  ⟨some 31, none, none, .objs [], .bin .gtr false (.v 30) (.c (.sc (.int .i64 0)))⟩])) <| mkC [0, 2, 4, 8, 11, 12, 31] <|
  .cond (.v 31) (.opsD [] ([
    ⟨some 32, none, none, .objs [], .mv (.v 12)⟩,
    ⟨some 33, none, none, .objs [], .mv (.v 2)⟩,
    ⟨some 34, none, none, .objs [], .cv .i64 (.v 33)⟩,
    ⟨some 35, none, none, .objs [], .mv (.v 12)⟩,
    ⟨some 36, none, none, .objs [(.v 35)], .lenS (.v 35)⟩,
    ⟨some 37, none, none, .objs [], .bin .rem false (.v 34) (.v 36)⟩,
    ⟨some 38, none, none, .objs [(.v 8)], .ld true 2 (.v 8)⟩,
    ⟨some 39, none, none, .objs [], .iaS 2 (.v 32) (.v 37)⟩,
    ⟨none, none, none, .objs [(.v 39)], .st 2 (.v 39) (.v 38)⟩])) (.nop)) <|
  .seq (.seq (.ops ([
  ⟨some 40, none, none, .objs [], .mv (.v 0)⟩,
  ⟨some 41, none, none, .objs [], .mv (.v 0)⟩,
  ⟨some 42, none, none, .objs [], .lenS (.v 41)⟩,
  ⟨some 43, none, none, .objs [], .mnx false (.v 42) (.c (.sc (.int .i64 14)))⟩,
  ⟨some 44, none, none, .objs [], .sl 2 (.v 40) none (some (.v 43)) none⟩] ++ mkL [2, 4, 8, 11, 12, 44] ([
  ⟨some 45, none, none, .objs [], .mv (.v 11)⟩,
  ⟨some 46, none, none, .objs [], .mv (.v 12)⟩,
  ⟨some 47, none, none, .objs [], .bd [(.sc (.slice none 0 0)), (.sc (.slice none 0 0)), (.sc (.slice none 0 0))] [(0, 1, (.v 44)), (1, 1, (.v 45)), (2, 1, (.v 46))]⟩,
  ⟨some 48, none, none, .objs [], .mv (.c (.sc (.int .i64 0)))⟩]))) <|
  .block 0 (.loop (some [2, 4, 8, 47, 48]) il8l1)) <|
  .seq (.ops ([
  ⟨some 10, none, none, .objs [], .mv (.c (.sc (.bool true)))⟩])) <|
  .ret

theorem il8_eq : cFn Try.prog pol 8 = some ⟨107, il8c, [(10, none)]⟩ := by kernel_rfl

noncomputable def il9l0b : C :=
  .seq (.ops ([
  ⟨some 57, none, none, .objs [], .bin .lss false (.v 56) (.c (.sc (.int .i64 3)))⟩])) <|
  .seq (.cond (.v 57) (.nop) (.exit 1)) <|
  .seq (.block 2 (.seq (.ops ([
    ⟨some 58, none, none, .objs [], .ixA true 6 3 6 (.v 55) (.v 56)⟩,
    ⟨some 12, none, none, .objs [], .nw 6 (.agg [(.sc (.int .i64 0)), (.sc (.int .i64 0)), (.sc (.bool false)), (.sc (.int .i64 0)), (.sc (.int .i64 0)), (.sc (.int .u64 0))])⟩,
    ⟨none, none, none, .objs [], .st 6 (.v 12) (.v 58)⟩])) <|
    .seq (.ops ([
    ⟨some 60, none, none, .objs [], .ld true 6 (.v 12)⟩,
    ⟨some 61, none, none, .objs [], .call (.c (.fn (.func 32) [] [])) [(.v 60)]⟩,
    ⟨some 59, none, none, .objs [], .mv (.v 61)⟩,
    ⟨some 62, none, none, .objs [], .ex (.v 59) 0⟩,
    ⟨some 63, none, none, .objs [], .ex (.v 59) 1⟩,
    ⟨some 13, none, none, .objs [], .mv (.v 62)⟩,
    ⟨some 14, none, none, .objs [], .mv (.v 63)⟩])) <|
    .seq (.seq (.ops ([
    ⟨some 64, none, none, .objs [], .ld true 6 (.v 12)⟩,
    ⟨some 65, none, none, .objs [], .call (.c (.fn (.func 33) [] [])) [(.v 64)]⟩,
    ⟨some 66, none, none, .objs [], .nt (.v 65)⟩])) <| mkC [10, 12, 13, 14, 55, 56, 66] <|
    .cond (.v 66) (.seq (.seq (.ops ([
      ⟨some 67, none, none, .objs [], .ld true 6 (.v 12)⟩,
      ⟨some 68, none, none, .objs [], .call (.c (.fn (.func 34) [] [])) [(.v 67)]⟩,
      ⟨some 69, none, none, .objs [], .bin .neq false (.v 68) (.c (.sc (.int .i64 500)))⟩,
      ⟨some 70, none, none, .objs [], .mv (.v 69)⟩,
      ⟨some 71, some (70, false), none, .objs [], .mv (.v 14)⟩,
      ⟨some 72, some (70, false), none, .objs [], .bin .neq false (.v 71) (.c (.sc (.int .i64 500)))⟩,
      ⟨some 73, none, none, .objs [], .pk (.v 70) (.c (.sc (.bool true))) (.v 72)⟩,
      ⟨some 74, none, none, .objs [], .mv (.v 73)⟩,
      ⟨some 75, some (74, false), none, .objs [], .mv (.v 13)⟩,
      ⟨some 76, some (74, false), none, .objs [], .lenS (.v 75)⟩,
      ⟨some 77, some (74, false), none, .objs [], .bin .gtr false (.v 76) (.c (.sc (.int .i64 0)))⟩,
      ⟨some 78, none, none, .objs [], .pk (.v 74) (.c (.sc (.bool true))) (.v 77)⟩])) <|
      .cond (.v 78) (.seq (.ops ([
        ⟨some 8, none, none, .objs [], .mv (.c (.sc (.bool false)))⟩])) <|
        .ret) (.nop)) <|
      .exit 2) (.nop)) <|
    .seq (.ops ([
    ⟨some 79, none, none, .objs [], .ld true 6 (.v 12)⟩] ++ mkL [10, 12, 13, 14, 55, 56, 79] ([
    ⟨some 80, none, none, .objs [], .call (.c (.fn (.func 34) [] [])) [(.v 79)]⟩,
    ⟨some 81, none, none, .objs [], .bin .neq false (.v 80) (.c (.sc (.int .i64 0)))⟩,
    ⟨some 82, none, none, .objs [], .mv (.v 81)⟩,
    ⟨some 83, some (82, false), none, .objs [], .mv (.v 14)⟩,
    ⟨some 84, some (82, false), none, .objs [], .bin .neq false (.v 83) (.c (.sc (.int .i64 0)))⟩,
    ⟨some 85, none, none, .objs [], .pk (.v 82) (.c (.sc (.bool true))) (.v 84)⟩,
    ⟨some 86, none, none, .objs [], .mv (.v 85)⟩,
    ⟨some 87, some (86, false), none, .objs [], .mv (.v 13)⟩,
    ⟨some 88, some (86, false), none, .objs [], .ld true 6 (.v 12)⟩,
    ⟨some 89, some (86, false), none, .objs [], .call (.c (.fn (.func 36) [] [])) [(.v 88)]⟩,
    ⟨some 90, some (86, false), none, .objs [], .call (.c (.fn (.func 35) [] [])) [(.v 87), (.v 89)]⟩,
    ⟨some 91, some (86, false), none, .objs [], .nt (.v 90)⟩,
    ⟨some 92, none, none, .objs [], .pk (.v 86) (.c (.sc (.bool true))) (.v 91)⟩]))) <|
    .cond (.v 92) (.seq (.ops ([
      ⟨some 8, none, none, .objs [], .mv (.c (.sc (.bool false)))⟩])) <|
      .ret) (.nop))) <| mkC [10, 55, 56] <|
  .ops ([
  ⟨some 93, none, none, .objs [], .bin .add false (.v 56) (.c (.sc (.int .i64 1)))⟩,
  ⟨some 56, none, none, .objs [], .mv (.v 93)⟩])
noncomputable def il9l0 : C := il9l0b
theorem il9l0_go {P : Program} {pol : Pol} {K : Oracle} {I : Inl} {n : Nat} {f : FuncId} {R : Xit → FEnv → Heap → Prop} {e : FEnv} {h : Heap} : wc P pol K I n f il9l0 R e h = wc P pol K I n f il9l0b R e h := (fun x => x) rfl

/-- isochron/isochronlaw40.RecoverChecks -/
noncomputable def il9c : C :=
  .seq (.ops ([
  ⟨some 4, none, none, .objs [], .bx false (.v 0)⟩,
  ⟨some 5, none, none, .objs [], .bx false (.v 1)⟩,
  ⟨some 8, none, none, .objs [], .mv (.c (.sc (.bool false)))⟩])) <|
  .seq (.seq (.ops ([
  ⟨some 17, none, none, .objs [], .call (.c (.fn (.func 30) [] [])) []⟩,
  ⟨some 18, none, none, .objs [], .nt (.v 17)⟩])) <|
  .cond (.v 18) (.seq (.ops ([
    ⟨some 8, none, none, .objs [], .mv (.c (.sc (.bool false)))⟩])) <|
    .ret) (.nop)) <|
  .seq (.ops ([
  ⟨some 19, none, none, .objs [], .ld true 6 (.v 5)⟩,
  ⟨some 20, none, none, .objs [], .call (.c (.fn (.func 31) [] [])) [(.v 19)]⟩,
  ⟨some 9, none, none, .objs [], .nw 6 (.agg [(.sc (.int .i64 0)), (.sc (.int .i64 0)), (.sc (.bool false)), (.sc (.int .i64 0)), (.sc (.int .i64 0)), (.sc (.int .u64 0))])⟩,
  ⟨none, none, none, .objs [], .st 6 (.v 9) (.v 20)⟩])) <|
  .seq (.ops ([
  ⟨some 21, none, none, .objs [], .ld true 6 (.v 9)⟩,
  ⟨some 10, none, none, .objs [], .nw 6 (.agg [(.sc (.int .i64 0)), (.sc (.int .i64 0)), (.sc (.bool false)), (.sc (.int .i64 0)), (.sc (.int .i64 0)), (.sc (.int .u64 0))])⟩,
  ⟨none, none, none, .objs [], .st 6 (.v 10) (.v 21)⟩])) <|
  .seq (.seq (.ops ([
  ⟨some 22, none, none, .objs [], .mv (.v 2)⟩] ++ mkL [3, 4, 9, 10, 22] ([
  ⟨some 23, none, none, .objs [], .bin .rem false (.v 22) (.c (.sc (.int .u8 6)))⟩]))) <|
  .block 0 (.seq (.ops ([
    ⟨some 27, none, none, .objs [], .bin .eql false (.v 23) (.c (.sc (.int .u8 0)))⟩,
    ⟨some 26, none, none, .objs [], .mv (.v 27)⟩])) <|
    .cond (.v 26) (.ops ([
      ⟨some 28, none, none, .objs [], .mv (.v 3)⟩,
      ⟨some 29, none, none, .objs [], .cv .i64 (.v 28)⟩,
      ⟨some 30, none, none, .objs [], .fa 0 (.v 10)⟩,
      ⟨none, none, none, .objs [], .st 1 (.v 30) (.v 29)⟩])) (.seq (.ops ([
      ⟨some 32, none, none, .objs [], .bin .eql false (.v 23) (.c (.sc (.int .u8 1)))⟩,
      ⟨some 31, none, none, .objs [], .mv (.v 32)⟩])) <|
      .cond (.v 31) (.ops ([
        ⟨some 33, none, none, .objs [], .mv (.v 3)⟩,
        ⟨some 34, none, none, .objs [], .cv .i64 (.v 33)⟩,
        ⟨some 35, none, none, .objs [], .fa 1 (.v 10)⟩,
        ⟨none, none, none, .objs [], .st 1 (.v 35) (.v 34)⟩])) (.seq (.ops ([
        ⟨some 37, none, none, .objs [], .bin .eql false (.v 23) (.c (.sc (.int .u8 2)))⟩,
        ⟨some 36, none, none, .objs [], .mv (.v 37)⟩])) <|
        .cond (.v 36) (.ops ([
          ⟨some 38, none, none, .objs [], .fa 2 (.v 9)⟩,
          ⟨some 39, none, none, .objs [], .ld false 1 (.v 38)⟩,
          ⟨some 40, none, none, .objs [], .nt (.v 39)⟩,
          ⟨some 41, none, none, .objs [], .fa 2 (.v 10)⟩,
          ⟨none, none, none, .objs [], .st 1 (.v 41) (.v 40)⟩])) (.seq (.ops ([
          ⟨some 43, none, none, .objs [], .bin .eql false (.v 23) (.c (.sc (.int .u8 3)))⟩,
          ⟨some 42, none, none, .objs [], .mv (.v 43)⟩])) <|
          .cond (.v 42) (.ops ([
            ⟨some 44, none, none, .objs [], .mv (.v 3)⟩,
            ⟨some 45, none, none, .objs [], .cv .i64 (.v 44)⟩,
            ⟨some 46, none, none, .objs [], .fa 3 (.v 10)⟩,
            ⟨none, none, none, .objs [], .st 1 (.v 46) (.v 45)⟩])) (.seq (.ops ([
            ⟨some 48, none, none, .objs [], .bin .eql false (.v 23) (.c (.sc (.int .u8 4)))⟩,
            ⟨some 47, none, none, .objs [], .mv (.v 48)⟩])) <|
            .cond (.v 47) (.ops ([
              ⟨some 49, none, none, .objs [], .mv (.v 3)⟩,
              ⟨some 50, none, none, .objs [], .cv .i64 (.v 49)⟩,
              ⟨some 51, none, none, .objs [], .fa 4 (.v 10)⟩] ++ mkL [4, 9, 10, 50, 51] ([
              ⟨none, none, none, .objs [], .st 1 (.v 51) (.v 50)⟩]))) (.ops ([
              ⟨some 24, none, none, .objs [], .mv (.v 3)⟩,
              ⟨some 25, none, none, .objs [], .fa 5 (.v 10)⟩,
              ⟨none, none, none, .objs [], .st 1 (.v 25) (.v 24)⟩])))))))) <| mkC [4, 9, 10] <|
  .seq (.seq (.ops ([
  ⟨some 52, none, none, .objs [], .ld true 6 (.v 4)⟩,
  ⟨some 53, none, none, .objs [], .ld true 6 (.v 9)⟩,
  ⟨some 54, none, none, .objs [], .ld true 6 (.v 10)⟩,
  ⟨some 55, none, none, .objs [], .bd [(.sc (.int .i64 0)), (.sc (.int .i64 0)), (.sc (.bool false)), (.sc (.int .i64 0)), (.sc (.int .i64 0)), (.sc (.int .u64 0)), (.sc (.int .i64 0)), (.sc (.int .i64 0)), (.sc (.bool false)), (.sc (.int .i64 0)), (.sc (.int .i64 0)), (.sc (.int .u64 0)), (.sc (.int .i64 0)), (.sc (.int .i64 0)), (.sc (.bool false)), (.sc (.int .i64 0)), (.sc (.int .i64 0)), (.sc (.int .u64 0))] [(0, 6, (.v 52)), (6, 6, (.v 53)), (12, 6, (.v 54))]⟩,
  ⟨some 56, none, none, .objs [], .mv (.c (.sc (.int .i64 0)))⟩])) <|
  .block 1 (.loop (some [10, 55, 56]) il9l0)) <|
  .seq (.ops ([
  ⟨some 95, none, none, .objs [], .fa 0 (.v 10)⟩,
  ⟨some 96, none, none, .objs [], .ld false 1 (.v 95)⟩,
  ⟨some 97, none, none, .objs [], .fa 1 (.v 10)⟩,
  ⟨some 98, none, none, .objs [], .ld false 1 (.v 97)⟩,
  ⟨some 99, none, none, .objs [], .call (.c (.fn (.func 37) [] [])) [(.v 96), (.v 98)]⟩,
  ⟨some 94, none, none, .objs [], .mv (.v 99)⟩,
  ⟨some 100, none, none, .objs [], .ex (.v 94) 0⟩,
  ⟨some 101, none, none, .objs [], .ex (.v 94) 1⟩,
  ⟨some 15, none, none, .objs [], .nw 6 (.agg [(.sc (.int .i64 0)), (.sc (.int .i64 0)), (.sc (.bool false)), (.sc (.int .i64 0)), (.sc (.int .i64 0)), (.sc (.int .u64 0))])⟩,
  ⟨none, none, none, .objs [], .st 6 (.v 15) (.v 100)⟩,
  ⟨some 16, none, none, .objs [], .mv (.v 101)⟩])) <|
  .seq (.seq (.ops ([
  ⟨some 102, none, none, .objs [], .fa 0 (.v 10)⟩,
  ⟨some 103, none, none, .objs [], .ld false 1 (.v 102)⟩,
  ⟨some 104, none, none, .objs [], .bin .lss false (.v 103) (.c (.sc (.int .i64 1)))⟩] ++ mkL [10, 15, 16, 104] ([
  ⟨some 105, none, none, .objs [], .mv (.v 104)⟩,
  ⟨some 106, some (105, false), none, .objs [], .fa 0 (.v 10)⟩,
  ⟨some 107, some (105, false), none, .objs [], .ld false 1 (.v 106)⟩,
  ⟨some 108, some (105, false), none, .objs [], .bin .gtr false (.v 107) (.c (.sc (.int .i64 64)))⟩,
  ⟨some 109, none, none, .objs [], .pk (.v 105) (.c (.sc (.bool true))) (.v 108)⟩,
  ⟨some 110, none, none, .objs [], .mv (.v 109)⟩,
  ⟨some 111, some (110, false), none, .objs [], .fa 1 (.v 10)⟩,
  ⟨some 112, some (110, false), none, .objs [], .ld false 1 (.v 111)⟩,
  ⟨some 113, some (110, false), none, .objs [], .bin .lss false (.v 112) (.c (.sc (.int .i64 1)))⟩,
  ⟨some 114, none, none, .objs [], .pk (.v 110) (.c (.sc (.bool true))) (.v 113)⟩,
  ⟨some 115, none, none, .objs [], .mv (.v 114)⟩,
  ⟨some 116, some (115, false), none, .objs [], .fa 1 (.v 10)⟩,
  ⟨some 117, some (115, false), none, .objs [], .ld false 1 (.v 116)⟩,
  ⟨some 118, some (115, false), none, .objs [], .bin .gtr false (.v 117) (.c (.sc (.int .i64 1099511627776)))⟩] ++ mkL [10, 15, 16, 115, 118] ([
  ⟨some 119, none, none, .objs [], .pk (.v 115) (.c (.sc (.bool true))) (.v 118)⟩])))) <|
  .cond (.v 119) (.seq (.ops ([
    ⟨some 120, none, none, .objs [], .mv (.v 16)⟩,
    ⟨some 121, none, none, .objs [], .bin .eql false (.v 120) (.c (.sc (.int .i64 2)))⟩,
    ⟨some 122, none, none, .objs [], .mv (.v 121)⟩,
    ⟨some 123, some (122, true), none, .objs [], .ld true 6 (.v 15)⟩,
    ⟨some 124, some (122, true), none, .objs [], .bd [(.sc (.int .i64 0)), (.sc (.int .i64 0)), (.sc (.bool false)), (.sc (.int .i64 0)), (.sc (.int .i64 0)), (.sc (.int .u64 0))] []⟩,
    ⟨some 125, some (122, true), none, .objs [], .raw (opOf Try.prog 9 29 5)⟩,
    ⟨some 126, none, none, .objs [], .pk (.v 122) (.v 125) (.c (.sc (.bool false)))⟩,
    ⟨some 8, none, none, .objs [], .mv (.v 126)⟩])) <|
    .ret) (.nop)) <|
  .seq (.ops ([
  ⟨some 127, none, none, .objs [], .mv (.v 16)⟩,
  ⟨some 128, none, none, .objs [], .bin .eql false (.v 127) (.c (.sc (.int .i64 0)))⟩,
  ⟨some 129, none, none, .objs [], .mv (.v 128)⟩,
  ⟨some 130, some (129, true), none, .objs [], .ld true 6 (.v 15)⟩,
  ⟨some 131, some (129, true), none, .objs [], .fa 0 (.v 10)⟩] ++ mkL [10, 129, 130, 131] ([
  ⟨some 132, some (129, true), none, .objs [], .ld false 1 (.v 131)⟩,
  ⟨some 133, some (129, true), none, .objs [], .fa 1 (.v 10)⟩,
  ⟨some 134, some (129, true), none, .objs [], .ld false 1 (.v 133)⟩,
  ⟨some 135, some (129, true), none, .objs [], .bd [(.sc (.int .i64 0)), (.sc (.int .i64 0)), (.sc (.bool false)), (.sc (.int .i64 0)), (.sc (.int .i64 0)), (.sc (.int .u64 0))] [(0, 1, (.v 132)), (1, 1, (.v 134)), (2, 1, (.c (.sc (.bool true))))]⟩,
  ⟨some 136, some (129, true), none, .objs [], .raw (opOf Try.prog 9 30 9)⟩,
  ⟨some 137, none, none, .objs [], .pk (.v 129) (.v 136) (.c (.sc (.bool false)))⟩,
  ⟨some 8, none, none, .objs [], .mv (.v 137)⟩]))) <|
  .ret

theorem il9_eq : cFn Try.prog pol 9 = some ⟨138, il9c, [(8, none)]⟩ := by kernel_rfl
theorem raw9_29_5 {e : FEnv} {h : Heap} : iStep Try.prog pol 9 e h (.raw (opOf Try.prog 9 29 5)) = vOf h (binE Try.prog false 65 (.tmp 123) (.tmp 124) (Src.get e (.v 123)) (Src.get e (.v 124))) := raw_eql (x := (.tmp 123)) (y := (.tmp 124)) (s := 65) (by kernel_rfl)
theorem raw9_30_9 {e : FEnv} {h : Heap} : iStep Try.prog pol 9 e h (.raw (opOf Try.prog 9 30 9)) = vOf h (binE Try.prog false 65 (.tmp 130) (.tmp 135) (Src.get e (.v 130)) (Src.get e (.v 135))) := raw_eql (x := (.tmp 130)) (y := (.tmp 135)) (s := 65) (by kernel_rfl)

noncomputable def il10l0b : C :=
  .seq (.ops ([
  ⟨some 53, none, none, .objs [], .bin .lss false (.v 52) (.c (.sc (.int .i64 3)))⟩])) <|
  .seq (.cond (.v 53) (.nop) (.exit 4)) <|
  .seq (.block 5 (.seq (.ops ([
    ⟨some 54, none, none, .objs [], .ixA false 1 3 1 (.v 51) (.v 52)⟩,
    ⟨some 17, none, none, .objs [], .mv (.v 54)⟩])) <|
    .seq (.ops ([
    ⟨some 56, none, none, .objs [], .ld true 6 (.v 13)⟩,
    ⟨some 57, none, none, .objs [], .mv (.v 15)⟩,
    ⟨some 58, none, none, .objs [], .mv (.v 17)⟩,
    ⟨some 59, none, none, .objs [], .call (.c (.fn (.func 38) [] [])) [(.v 56), (.v 57), (.v 58)]⟩,
    ⟨some 55, none, none, .objs [], .mv (.v 59)⟩,
    ⟨some 60, none, none, .objs [], .ex (.v 55) 0⟩,
    ⟨some 61, none, none, .objs [], .ex (.v 55) 1⟩,
    ⟨some 62, none, none, .objs [], .ex (.v 55) 2⟩,
    ⟨some 18, none, none, .objs [], .nw 6 (.agg [(.sc (.int .i64 0)), (.sc (.int .i64 0)), (.sc (.bool false)), (.sc (.int .i64 0)), (.sc (.int .i64 0)), (.sc (.int .u64 0))])⟩,
    ⟨none, none, none, .objs [], .st 6 (.v 18) (.v 60)⟩,
    ⟨some 19, none, none, .objs [], .mv (.v 61)⟩] ++ mkL [2, 3, 4, 11, 13, 15, 17, 18, 19, 29, 30, 39, 40, 51, 52, 62] ([
    ⟨some 20, none, none, .objs [], .mv (.v 62)⟩]))) <|
    .block 6 (.seq (.ops ([
      ⟨some 88, none, none, .objs [], .ld true 6 (.v 13)⟩,
      ⟨some 89, none, none, .objs [], .call (.c (.fn (.func 33) [] [])) [(.v 88)]⟩,
      ⟨some 90, none, none, .objs [], .nt (.v 89)⟩,
      ⟨some 87, none, none, .objs [], .mv (.v 90)⟩])) <|
      .cond (.v 87) (.seq (.ops ([
        ⟨some 91, none, none, .objs [], .mv (.v 20)⟩,
        ⟨some 92, none, none, .objs [], .bin .neq false (.v 91) (.c (.sc (.int .i64 500)))⟩,
        ⟨some 93, none, none, .objs [], .mv (.v 92)⟩,
        ⟨some 94, some (93, false), none, .objs [], .mv (.v 19)⟩,
        ⟨some 95, none, none, .objs [], .pk (.v 93) (.c (.sc (.bool true))) (.v 94)⟩,
        ⟨some 96, none, none, .objs [], .mv (.v 95)⟩,
        ⟨some 97, some (96, false), none, .objs [], .ld true 6 (.v 18)⟩,
        ⟨some 98, some (96, false), none, .objs [], .bd [(.sc (.int .i64 0)), (.sc (.int .i64 0)), (.sc (.bool false)), (.sc (.int .i64 0)), (.sc (.int .i64 0)), (.sc (.int .u64 0))] []⟩,
        ⟨some 99, some (96, false), none, .objs [], .raw (opOf Try.prog 10 18 8)⟩] ++ mkL [2, 3, 4, 11, 13, 15, 29, 30, 39, 40, 51, 52, 96, 99] ([
        ⟨some 100, none, none, .objs [], .pk (.v 96) (.c (.sc (.bool true))) (.v 99)⟩]))) <|
        .cond (.v 100) (.seq (.ops ([
          ⟨some 10, none, none, .objs [], .mv (.c (.sc (.bool false)))⟩])) <|
          .ret) (.nop)) (.seq (.ops ([
        ⟨some 102, none, none, .objs [], .mv (.v 15)⟩,
        ⟨some 103, none, none, .objs [], .call (.c (.fn (.func 20) [] [])) [(.v 102)]⟩,
        ⟨some 104, none, none, .objs [], .nt (.v 103)⟩,
        ⟨some 105, none, none, .objs [], .mv (.v 104)⟩,
        ⟨some 106, some (105, false), none, .objs [], .mv (.v 17)⟩,
        ⟨some 107, some (105, false), none, .objs [], .fa 4 (.v 13)⟩,
        ⟨some 108, some (105, false), none, .objs [], .ld false 1 (.v 107)⟩,
        ⟨some 109, some (105, false), none, .objs [], .bin .lss false (.v 106) (.v 108)⟩,
        ⟨some 110, none, none, .objs [], .pk (.v 105) (.c (.sc (.bool true))) (.v 109)⟩] ++ mkL [2, 3, 4, 11, 13, 15, 17, 18, 19, 20, 29, 30, 39, 40, 51, 52, 110] ([
        ⟨some 111, none, none, .objs [], .mv (.v 110)⟩,
        ⟨some 112, some (111, false), none, .objs [], .mv (.v 17)⟩,
        ⟨some 113, some (111, false), none, .objs [], .bin .gtr false (.v 112) (.c (.sc (.int .i64 1099511627776)))⟩,
        ⟨some 114, none, none, .objs [], .pk (.v 111) (.c (.sc (.bool true))) (.v 113)⟩,
        ⟨some 115, none, none, .objs [], .mv (.v 114)⟩,
        ⟨some 116, some (115, false), none, .objs [], .mv (.v 17)⟩,
        ⟨some 117, some (115, false), none, .objs [], .bin .lss false (.v 116) (.c (.sc (.int .i64 0)))⟩,
        ⟨some 118, none, none, .objs [], .pk (.v 115) (.c (.sc (.bool true))) (.v 117)⟩,
        ⟨some 101, none, none, .objs [], .mv (.v 118)⟩]))) <|
        .cond (.v 101) (.seq (.ops ([
          ⟨some 119, none, none, .objs [], .mv (.v 20)⟩,
          ⟨some 120, none, none, .objs [], .bin .neq false (.v 119) (.c (.sc (.int .i64 2)))⟩,
          ⟨some 121, none, none, .objs [], .mv (.v 120)⟩,
          ⟨some 122, some (121, false), none, .objs [], .mv (.v 19)⟩,
          ⟨some 123, none, none, .objs [], .pk (.v 121) (.c (.sc (.bool true))) (.v 122)⟩] ++ mkL [2, 3, 4, 11, 13, 15, 18, 29, 30, 39, 40, 51, 52, 123] ([
          ⟨some 124, none, none, .objs [], .mv (.v 123)⟩,
          ⟨some 125, some (124, false), none, .objs [], .ld true 6 (.v 18)⟩,
          ⟨some 126, some (124, false), none, .objs [], .bd [(.sc (.int .i64 0)), (.sc (.int .i64 0)), (.sc (.bool false)), (.sc (.int .i64 0)), (.sc (.int .i64 0)), (.sc (.int .u64 0))] []⟩,
          ⟨some 127, some (124, false), none, .objs [], .raw (opOf Try.prog 10 21 8)⟩,
          ⟨some 128, none, none, .objs [], .pk (.v 124) (.c (.sc (.bool true))) (.v 127)⟩]))) <|
          .cond (.v 128) (.seq (.ops ([
            ⟨some 10, none, none, .objs [], .mv (.c (.sc (.bool false)))⟩])) <|
            .ret) (.nop)) (.seq (.ops ([
          ⟨some 64, none, none, .objs [], .ld true 6 (.v 13)⟩,
          ⟨some 65, none, none, .objs [], .mv (.v 15)⟩,
          ⟨some 66, none, none, .objs [], .mv (.v 17)⟩,
          ⟨some 67, none, none, .objs [], .call (.c (.fn (.func 39) [] [])) [(.v 64), (.v 65), (.v 66)]⟩,
          ⟨some 63, none, none, .objs [], .mv (.v 67)⟩] ++ mkL [2, 3, 4, 11, 13, 15, 18, 19, 20, 29, 30, 39, 40, 51, 52, 63] ([
          ⟨some 68, none, none, .objs [], .ex (.v 63) 0⟩,
          ⟨some 69, none, none, .objs [], .ex (.v 63) 1⟩,
          ⟨some 21, none, none, .objs [], .nw 6 (.agg [(.sc (.int .i64 0)), (.sc (.int .i64 0)), (.sc (.bool false)), (.sc (.int .i64 0)), (.sc (.int .i64 0)), (.sc (.int .u64 0))])⟩,
          ⟨none, none, none, .objs [], .st 6 (.v 21) (.v 68)⟩,
          ⟨some 22, none, none, .objs [], .mv (.v 69)⟩]))) <|
          .seq (.ops ([
          ⟨some 70, none, none, .objs [], .mv (.v 20)⟩,
          ⟨some 71, none, none, .objs [], .bin .neq false (.v 70) (.c (.sc (.int .i64 0)))⟩,
          ⟨some 72, none, none, .objs [], .mv (.v 71)⟩,
          ⟨some 73, some (72, false), none, .objs [], .mv (.v 19)⟩,
          ⟨some 74, some (72, false), none, .objs [], .mv (.v 22)⟩,
          ⟨some 75, some (72, false), none, .objs [], .bin .neq true (.v 73) (.v 74)⟩,
          ⟨some 76, none, none, .objs [], .pk (.v 72) (.c (.sc (.bool true))) (.v 75)⟩,
          ⟨some 77, none, none, .objs [], .mv (.v 76)⟩,
          ⟨some 78, some (77, false), none, .objs [], .ld true 6 (.v 18)⟩] ++ mkL [2, 3, 4, 11, 13, 15, 18, 21, 29, 30, 39, 40, 51, 52, 77, 78] ([
          ⟨some 79, some (77, false), none, .objs [], .ld true 6 (.v 21)⟩,
          ⟨some 80, some (77, false), none, .objs [], .raw (opOf Try.prog 10 15 10)⟩,
          ⟨some 81, none, none, .objs [], .pk (.v 77) (.c (.sc (.bool true))) (.v 80)⟩,
          ⟨some 82, none, none, .objs [], .mv (.v 81)⟩,
          ⟨some 83, some (82, false), none, .objs [], .ld true 6 (.v 18)⟩,
          ⟨some 84, some (82, false), none, .objs [], .call (.c (.fn (.func 34) [] [])) [(.v 83)]⟩,
          ⟨some 85, some (82, false), none, .objs [], .bin .neq false (.v 84) (.c (.sc (.int .i64 0)))⟩,
          ⟨some 86, none, none, .objs [], .pk (.v 82) (.c (.sc (.bool true))) (.v 85)⟩]))) <|
          .cond (.v 86) (.seq (.ops ([
            ⟨some 10, none, none, .objs [], .mv (.c (.sc (.bool false)))⟩])) <|
            .ret) (.nop)))))) <|
  .ops ([
  ⟨some 129, none, none, .objs [], .bin .add false (.v 52) (.c (.sc (.int .i64 1)))⟩,
  ⟨some 52, none, none, .objs [], .mv (.v 129)⟩])
noncomputable def il10l0 : C := il10l0b
theorem il10l0_go {P : Program} {pol : Pol} {K : Oracle} {I : Inl} {n : Nat} {f : FuncId} {R : Xit → FEnv → Heap → Prop} {e : FEnv} {h : Heap} : wc P pol K I n f il10l0 R e h = wc P pol K I n f il10l0b R e h := (fun x => x) rfl

noncomputable def il10l1b : C :=
  .seq (.ops ([
  ⟨some 41, none, none, .objs [], .bin .lss false (.v 40) (.c (.sc (.int .i64 2)))⟩])) <|
  .seq (.cond (.v 41) (.nop) (.exit 2)) <|
  .seq (.block 3 (.seq (.ops ([
    ⟨some 42, none, none, .objs [], .ixA false 1 2 1 (.v 39) (.v 40)⟩,
    ⟨some 15, none, none, .objs [], .mv (.v 42)⟩])) <|
    .seq (.ops ([
    ⟨some 43, none, none, .objs [], .mv (.v 3)⟩,
    ⟨some 44, none, none, .objs [], .fa 4 (.v 13)⟩,
    ⟨some 45, none, none, .objs [], .ld false 1 (.v 44)⟩,
    ⟨some 46, none, none, .objs [], .fa 4 (.v 11)⟩,
    ⟨some 47, none, none, .objs [], .ld false 1 (.v 46)⟩,
    ⟨some 48, none, none, .objs [], .fa 1 (.v 11)⟩,
    ⟨some 49, none, none, .objs [], .ld false 1 (.v 48)⟩,
    ⟨some 50, none, none, .objs [], .bin .add false (.v 47) (.v 49)⟩,
    ⟨some 51, none, none, .objs [], .bd [(.sc (.int .i64 0)), (.sc (.int .i64 0)), (.sc (.int .i64 0))] [(0, 1, (.v 43)), (1, 1, (.v 45)), (2, 1, (.v 50))]⟩,
    ⟨some 52, none, none, .objs [], .mv (.c (.sc (.int .i64 0)))⟩])) <|
    .block 4 (.loop (some [2, 3, 4, 11, 13, 15, 29, 30, 39, 40, 51, 52]) il10l0))) <|
  .ops ([
  ⟨some 130, none, none, .objs [], .bin .add false (.v 40) (.c (.sc (.int .i64 1)))⟩,
  ⟨some 40, none, none, .objs [], .mv (.v 130)⟩])
noncomputable def il10l1 : C := il10l1b
theorem il10l1_go {P : Program} {pol : Pol} {K : Oracle} {I : Inl} {n : Nat} {f : FuncId} {R : Xit → FEnv → Heap → Prop} {e : FEnv} {h : Heap} : wc P pol K I n f il10l1 R e h = wc P pol K I n f il10l1b R e h := (fun x => x) rfl

noncomputable def il10l2b : C :=
  .seq (.ops ([
  ⟨some 31, none, none, .objs [], .bin .lss false (.v 30) (.c (.sc (.int .i64 2)))⟩])) <|
  .seq (.cond (.v 31) (.nop) (.exit 0)) <|
  .seq (.block 1 (.seq (.ops ([
    ⟨some 32, none, none, .objs [], .ixA true 6 2 6 (.v 29) (.v 30)⟩,
    ⟨some 13, none, none, .objs [], .nw 6 (.agg [(.sc (.int .i64 0)), (.sc (.int .i64 0)), (.sc (.bool false)), (.sc (.int .i64 0)), (.sc (.int .i64 0)), (.sc (.int .u64 0))])⟩,
    ⟨none, none, none, .objs [], .st 6 (.v 13) (.v 32)⟩])) <|
    .seq (.ops ([
    ⟨some 33, none, none, .objs [], .mv (.v 2)⟩,
    ⟨some 34, none, none, .objs [], .fa 3 (.v 11)⟩,
    ⟨some 35, none, none, .objs [], .ld false 1 (.v 34)⟩,
    ⟨some 36, none, none, .objs [], .mv (.v 4)⟩,
    ⟨some 37, none, none, .objs [], .cv .i64 (.v 36)⟩,
    ⟨some 38, none, none, .objs [], .call (.c (.fn (.func 19) [] [])) [(.v 35), (.v 37)]⟩,
    ⟨some 39, none, none, .objs [], .bd [(.sc (.int .i64 0)), (.sc (.int .i64 0))] [(0, 1, (.v 33)), (1, 1, (.v 38))]⟩,
    ⟨some 40, none, none, .objs [], .mv (.c (.sc (.int .i64 0)))⟩])) <|
    .block 2 (.loop (some [2, 3, 4, 11, 13, 29, 30, 39, 40]) il10l1))) <|
  .ops ([
  ⟨some 131, none, none, .objs [], .bin .add false (.v 30) (.c (.sc (.int .i64 1)))⟩,
  ⟨some 30, none, none, .objs [], .mv (.v 131)⟩])
noncomputable def il10l2 : C := il10l2b
theorem il10l2_go {P : Program} {pol : Pol} {K : Oracle} {I : Inl} {n : Nat} {f : FuncId} {R : Xit → FEnv → Heap → Prop} {e : FEnv} {h : Heap} : wc P pol K I n f il10l2 R e h = wc P pol K I n f il10l2b R e h := (fun x => x) rfl

/-- isochron/isochronlaw40.RecoverSteps -/
noncomputable def il10c : C :=
  .seq (.ops ([
  ⟨some 5, none, none, .objs [], .bx false (.v 0)⟩,
  ⟨some 6, none, none, .objs [], .bx false (.v 1)⟩,
  ⟨some 10, none, none, .objs [], .mv (.c (.sc (.bool false)))⟩])) <|
  .seq (.seq (.ops ([
  ⟨some 23, none, none, .objs [], .call (.c (.fn (.func 30) [] [])) []⟩,
  ⟨some 24, none, none, .objs [], .nt (.v 23)⟩])) <|
  .cond (.v 24) (.seq (.ops ([
    ⟨some 10, none, none, .objs [], .mv (.c (.sc (.bool false)))⟩])) <|
    .ret) (.nop)) <|
  .seq (.ops ([
  ⟨some 25, none, none, .objs [], .ld true 6 (.v 6)⟩,
  ⟨some 26, none, none, .objs [], .call (.c (.fn (.func 31) [] [])) [(.v 25)]⟩,
  ⟨some 11, none, none, .objs [], .nw 6 (.agg [(.sc (.int .i64 0)), (.sc (.int .i64 0)), (.sc (.bool false)), (.sc (.int .i64 0)), (.sc (.int .i64 0)), (.sc (.int .u64 0))])⟩,
  ⟨none, none, none, .objs [], .st 6 (.v 11) (.v 26)⟩])) <|
  .seq (.seq (.ops ([
  ⟨some 27, none, none, .objs [], .ld true 6 (.v 5)⟩,
  ⟨some 28, none, none, .objs [], .ld true 6 (.v 11)⟩,
  ⟨some 29, none, none, .objs [], .bd [(.sc (.int .i64 0)), (.sc (.int .i64 0)), (.sc (.bool false)), (.sc (.int .i64 0)), (.sc (.int .i64 0)), (.sc (.int .u64 0)), (.sc (.int .i64 0)), (.sc (.int .i64 0)), (.sc (.bool false)), (.sc (.int .i64 0)), (.sc (.int .i64 0)), (.sc (.int .u64 0))] [(0, 6, (.v 27)), (6, 6, (.v 28))]⟩,
  ⟨some 30, none, none, .objs [], .mv (.c (.sc (.int .i64 0)))⟩])) <| mkC [2, 3, 4, 11, 29, 30] <|
  .block 0 (.loop (some [2, 3, 4, 11, 29, 30]) il10l2)) <|
  .seq (.ops ([
  ⟨some 10, none, none, .objs [], .mv (.c (.sc (.bool true)))⟩])) <|
  .ret

theorem il10_eq : cFn Try.prog pol 10 = some ⟨132, il10c, [(10, none)]⟩ := by kernel_rfl
theorem raw10_18_8 {e : FEnv} {h : Heap} : iStep Try.prog pol 10 e h (.raw (opOf Try.prog 10 18 8)) = vOf h (binE Try.prog true 65 (.tmp 97) (.tmp 98) (Src.get e (.v 97)) (Src.get e (.v 98))) := raw_neq (x := (.tmp 97)) (y := (.tmp 98)) (s := 65) (by kernel_rfl)
theorem raw10_21_8 {e : FEnv} {h : Heap} : iStep Try.prog pol 10 e h (.raw (opOf Try.prog 10 21 8)) = vOf h (binE Try.prog true 65 (.tmp 125) (.tmp 126) (Src.get e (.v 125)) (Src.get e (.v 126))) := raw_neq (x := (.tmp 125)) (y := (.tmp 126)) (s := 65) (by kernel_rfl)
theorem raw10_15_10 {e : FEnv} {h : Heap} : iStep Try.prog pol 10 e h (.raw (opOf Try.prog 10 15 10)) = vOf h (binE Try.prog true 65 (.tmp 78) (.tmp 79) (Src.get e (.v 78)) (Src.get e (.v 79))) := raw_neq (x := (.tmp 78)) (y := (.tmp 79)) (s := 65) (by kernel_rfl)

noncomputable def il11l0b : C :=
  .seq (.ops ([
  ⟨some 45, none, none, .objs [], .bin .lss false (.v 44) (.v 43)⟩])) <|
  .seq (.cond (.v 45) (.nop) (.exit 0)) <|
  .seq (.block 1 (.seq (.ops ([
    ⟨some 46, none, none, .objs [], .mv (.v 44)⟩,
    ⟨some 47, none, none, .objs [], .iaS 2 (.v 42) (.v 44)⟩,
    ⟨some 48, none, none, .objs [], .ld true 2 (.v 47)⟩,
    ⟨some 14, none, none, .objs [], .nw 2 (.agg [(.sc (.int .i16 0)), (.sc (.int .i16 0))])⟩,
    ⟨some 13, none, none, .objs [], .mv (.v 46)⟩,
    ⟨none, none, none, .objs [], .st 2 (.v 14) (.v 48)⟩])) <|
    .seq (.ops ([
    ⟨some 49, none, none, .objs [], .mv (.v 11)⟩,
    ⟨some 50, none, none, .objs [], .fa 0 (.v 14)⟩,
    ⟨some 51, none, none, .objs [], .ld false 1 (.v 50)⟩,
    ⟨some 52, none, none, .objs [], .cv .i64 (.v 51)⟩,
    ⟨some 53, none, none, .objs [], .mnx true (.v 52) (.c (.sc (.int .i64 (-32767))))⟩,
    ⟨some 54, none, none, .objs [], .bin .add false (.v 49) (.v 53)⟩,
    ⟨some 15, none, none, .objs [], .mv (.v 54)⟩])) <| mkC [7, 8, 10, 11, 12, 13, 14, 15, 42, 43, 44] <|
    .seq (.ops ([
    ⟨some 55, none, none, .objs [], .mv (.v 12)⟩,
    ⟨some 56, none, none, .objs [], .fa 1 (.v 14)⟩,
    ⟨some 57, none, none, .objs [], .ld false 1 (.v 56)⟩,
    ⟨some 58, none, none, .objs [], .cv .i64 (.v 57)⟩,
    ⟨some 59, none, none, .objs [], .mnx true (.v 58) (.c (.sc (.int .i64 0)))⟩,
    ⟨some 60, none, none, .objs [], .bin .add false (.v 55) (.v 59)⟩,
    ⟨some 16, none, none, .objs [], .mv (.v 60)⟩])) <|
    .seq (.ops ([
    ⟨some 62, none, none, .objs [], .ld true 6 (.v 8)⟩,
    ⟨some 63, none, none, .objs [], .mv (.v 15)⟩,
    ⟨some 64, none, none, .objs [], .bin .rem false (.v 63) (.c (.sc (.int .i64 65536)))⟩,
    ⟨some 65, none, none, .objs [], .bin .add false (.v 64) (.c (.sc (.int .i64 65536)))⟩,
    ⟨some 66, none, none, .objs [], .bin .rem false (.v 65) (.c (.sc (.int .i64 65536)))⟩,
    ⟨some 67, none, none, .objs [], .mv (.v 16)⟩,
    ⟨some 68, none, none, .objs [], .call (.c (.fn (.func 38) [] [])) [(.v 62), (.v 66), (.v 67)]⟩] ++ mkL [7, 8, 10, 11, 12, 13, 15, 16, 42, 43, 44, 68] ([
    ⟨some 61, none, none, .objs [], .mv (.v 68)⟩,
    ⟨some 69, none, none, .objs [], .ex (.v 61) 0⟩,
    ⟨some 70, none, none, .objs [], .ex (.v 61) 1⟩,
    ⟨some 71, none, none, .objs [], .ex (.v 61) 2⟩,
    ⟨some 17, none, none, .objs [], .nw 6 (.agg [(.sc (.int .i64 0)), (.sc (.int .i64 0)), (.sc (.bool false)), (.sc (.int .i64 0)), (.sc (.int .i64 0)), (.sc (.int .u64 0))])⟩,
    ⟨none, none, none, .objs [], .st 6 (.v 17) (.v 69)⟩,
    ⟨some 18, none, none, .objs [], .mv (.v 70)⟩,
    ⟨some 19, none, none, .objs [], .mv (.v 71)⟩]))) <|
    .seq (.ops ([
    ⟨some 72, none, none, .objs [], .mv (.v 15)⟩,
    ⟨some 73, none, none, .objs [], .mv (.v 11)⟩,
    ⟨some 74, none, none, .objs [], .bin .sub false (.v 72) (.v 73)⟩,
    ⟨some 20, none, none, .objs [], .mv (.v 74)⟩])) <|
    .seq (.ops ([
    ⟨some 75, none, none, .objs [], .mv (.v 13)⟩,
    ⟨some 76, none, none, .objs [], .bin .eql false (.v 75) (.c (.sc (.int .i64 0)))⟩] ++ mkL [7, 8, 10, 11, 12, 13, 15, 16, 17, 18, 19, 20, 42, 43, 44, 76] ([
    ⟨some 77, none, none, .objs [], .mv (.v 76)⟩,
    ⟨some 78, some (77, false), none, .objs [], .mv (.v 20)⟩,
    ⟨some 79, some (77, false), none, .objs [], .mv (.v 7)⟩,
    ⟨some 80, some (77, false), none, .objs [], .ng (.v 79)⟩,
    ⟨some 81, some (77, false), none, .objs [], .bin .gtr false (.v 78) (.v 80)⟩,
    ⟨some 82, some (77, false), none, .objs [], .mv (.v 81)⟩,
    ⟨some 83, some (82, true), none, .objs [], .mv (.v 20)⟩,
    ⟨some 84, some (82, true), none, .objs [], .mv (.v 7)⟩,
    ⟨some 85, some (82, true), none, .objs [], .bin .lss false (.v 83) (.v 84)⟩,
    ⟨some 86, some (77, false), none, .objs [], .pk (.v 82) (.v 85) (.c (.sc (.bool false)))⟩,
    ⟨some 87, some (77, false), none, .objs [], .mv (.v 86)⟩,
    ⟨some 88, some (87, true), none, .objs [], .mv (.v 10)⟩,
    ⟨some 89, some (87, true), none, .objs [], .mv (.v 15)⟩,
    ⟨some 90, some (87, true), none, .objs [], .raw (opOf Try.prog 11 16 15)⟩] ++ mkL [7, 8, 10, 11, 12, 13, 15, 16, 17, 18, 19, 20, 42, 43, 44, 77, 87, 90] ([
    ⟨some 91, some (87, true), none, .objs [], .nt (.v 90)⟩,
    ⟨some 92, some (77, false), none, .objs [], .pk (.v 87) (.v 91) (.c (.sc (.bool false)))⟩,
    ⟨some 93, none, none, .objs [], .pk (.v 77) (.c (.sc (.bool true))) (.v 92)⟩,
    ⟨some 21, none, none, .objs [], .mv (.v 93)⟩])))) <|
    .seq (.seq (.ops ([
    ⟨some 94, none, none, .objs [], .mv (.v 19)⟩,
    ⟨some 95, none, none, .objs [], .bin .neq false (.v 94) (.c (.sc (.int .i64 0)))⟩,
    ⟨some 96, none, none, .objs [], .mv (.v 95)⟩,
    ⟨some 97, some (96, false), none, .objs [], .mv (.v 18)⟩,
    ⟨some 98, some (96, false), none, .objs [], .mv (.v 21)⟩,
    ⟨some 99, some (96, false), none, .objs [], .bin .neq true (.v 97) (.v 98)⟩,
    ⟨some 100, none, none, .objs [], .pk (.v 96) (.c (.sc (.bool true))) (.v 99)⟩,
    ⟨some 101, none, none, .objs [], .mv (.v 100)⟩,
    ⟨some 102, some (101, false), none, .objs [], .mv (.v 18)⟩,
    ⟨some 103, some (101, false), none, .objs [], .nt (.v 102)⟩] ++ mkL [7, 8, 10, 11, 12, 13, 15, 16, 17, 18, 20, 42, 43, 44, 101, 103] ([
    ⟨some 104, some (101, false), none, .objs [], .mv (.v 103)⟩,
    ⟨some 105, some (104, true), none, .objs [], .ld true 6 (.v 17)⟩,
    ⟨some 106, some (104, true), none, .objs [], .ld true 6 (.v 8)⟩,
    ⟨some 107, some (104, true), none, .objs [], .raw (opOf Try.prog 11 17 13)⟩,
    ⟨some 108, some (101, false), none, .objs [], .pk (.v 104) (.v 107) (.c (.sc (.bool false)))⟩,
    ⟨some 109, none, none, .objs [], .pk (.v 101) (.c (.sc (.bool true))) (.v 108)⟩]))) <|
    .cond (.v 109) (.seq (.ops ([
      ⟨some 6, none, none, .objs [], .mv (.c (.sc (.bool false)))⟩])) <|
      .ret) (.nop)) <|
    .seq (.ops ([
    ⟨some 110, none, none, .objs [], .ld true 6 (.v 17)⟩,
    ⟨none, none, none, .objs [], .st 6 (.v 8) (.v 110)⟩])) <|
    .seq (.ops ([
    ⟨some 111, none, none, .objs [], .mv (.v 18)⟩])) <|
    .cond (.v 111) (.seq (.ops ([
      ⟨some 112, none, none, .objs [], .mv (.v 10)⟩,
      ⟨some 113, none, none, .objs [], .mv (.v 15)⟩,
      ⟨some 114, none, none, .objs [], .mv (.v 16)⟩,
      ⟨none, none, none, .objs [], .raw (opOf Try.prog 11 21 3)⟩] ++ mkL [7, 8, 10, 11, 13, 15, 20, 42, 43, 44, 114] ([
      ⟨some 12, none, none, .objs [], .mv (.v 114)⟩]))) <|
      .seq (.ops ([
      ⟨some 115, none, none, .objs [], .mv (.v 20)⟩,
      ⟨some 116, none, none, .objs [], .bin .gtr false (.v 115) (.c (.sc (.int .i64 0)))⟩,
      ⟨some 117, none, none, .objs [], .mv (.v 116)⟩,
      ⟨some 118, some (117, false), none, .objs [], .mv (.v 13)⟩,
      ⟨some 119, some (117, false), none, .objs [], .bin .eql false (.v 118) (.c (.sc (.int .i64 0)))⟩,
      ⟨some 120, none, none, .objs [], .pk (.v 117) (.c (.sc (.bool true))) (.v 119)⟩])) <|
      .cond (.v 120) (.ops ([
        ⟨some 121, none, none, .objs [], .mv (.v 15)⟩,
        ⟨some 11, none, none, .objs [], .mv (.v 121)⟩])) (.nop)) (.nop))) <|
  .ops ([
  ⟨some 122, none, none, .objs [], .bin .add false (.v 44) (.c (.sc (.int .i64 1)))⟩,
  ⟨some 44, none, none, .objs [], .mv (.v 122)⟩])
noncomputable def il11l0 : C := il11l0b
theorem il11l0_go {P : Program} {pol : Pol} {K : Oracle} {I : Inl} {n : Nat} {f : FuncId} {R : Xit → FEnv → Heap → Prop} {e : FEnv} {h : Heap} : wc P pol K I n f il11l0 R e h = wc P pol K I n f il11l0b R e h := (fun x => x) rfl

/-- isochron/isochronlaw40.RecoverOnce -/
noncomputable def il11c : C :=
  .seq (.ops ([
  ⟨some 6, none, none, .objs [], .mv (.c (.sc (.bool false)))⟩])) <|
  .seq (.seq (.ops ([
  ⟨some 22, none, none, .objs [], .call (.c (.fn (.func 30) [] [])) []⟩,
  ⟨some 23, none, none, .objs [], .nt (.v 22)⟩])) <|
  .cond (.v 23) (.seq (.ops ([
    ⟨some 6, none, none, .objs [], .mv (.c (.sc (.bool false)))⟩])) <|
    .ret) (.nop)) <|
  .seq (.ops ([
  ⟨some 24, none, none, .objs [], .mv (.v 0)⟩,
  ⟨some 25, none, none, .objs [], .bin .rem false (.v 24) (.c (.sc (.int .u8 64)))⟩,
  ⟨some 26, none, none, .objs [], .cv .i64 (.v 25)⟩,
  ⟨some 27, none, none, .objs [], .bin .add false (.c (.sc (.int .i64 1))) (.v 26)⟩,
  ⟨some 7, none, none, .objs [], .mv (.v 27)⟩])) <|
  .seq (.ops ([
  ⟨some 29, none, none, .objs [], .mv (.v 7)⟩,
  ⟨some 30, none, none, .objs [], .call (.c (.fn (.func 37) [] [])) [(.v 29), (.c (.sc (.int .i64 40000)))]⟩,
  ⟨some 28, none, none, .objs [], .mv (.v 30)⟩,
  ⟨some 31, none, none, .objs [], .ex (.v 28) 0⟩,
  ⟨some 32, none, none, .objs [], .ex (.v 28) 1⟩] ++ mkL [1, 2, 7, 31, 32] ([
  ⟨some 8, none, none, .objs [], .nw 6 (.agg [(.sc (.int .i64 0)), (.sc (.int .i64 0)), (.sc (.bool false)), (.sc (.int .i64 0)), (.sc (.int .i64 0)), (.sc (.int .u64 0))])⟩,
  ⟨none, none, none, .objs [], .st 6 (.v 8) (.v 31)⟩,
  ⟨some 9, none, none, .objs [], .mv (.v 32)⟩]))) <|
  .seq (.seq (.ops ([
  ⟨some 33, none, none, .objs [], .mv (.v 9)⟩,
  ⟨some 34, none, none, .objs [], .bin .neq false (.v 33) (.c (.sc (.int .i64 0)))⟩])) <|
  .cond (.v 34) (.seq (.ops ([
    ⟨some 6, none, none, .objs [], .mv (.c (.sc (.bool false)))⟩])) <|
    .ret) (.nop)) <|
  .seq (.ops ([
  ⟨some 35, none, none, .objs [], .raw (opOf Try.prog 11 7 0)⟩,
  ⟨some 10, none, none, .objs [], .mv (.v 35)⟩])) <|
  .seq (.ops ([
  ⟨some 36, none, none, .objs [], .mv (.v 1)⟩,
  ⟨some 37, none, none, .objs [], .cv .i64 (.v 36)⟩,
  ⟨some 11, none, none, .objs [], .mv (.v 37)⟩,
  ⟨some 12, none, none, .objs [], .mv (.c (.sc (.int .i64 0)))⟩])) <|
  .seq (.seq (.ops ([
  ⟨some 38, none, none, .objs [], .mv (.v 2)⟩,
  ⟨some 39, none, none, .objs [], .mv (.v 2)⟩] ++ mkL [7, 8, 10, 11, 12, 38, 39] ([
  ⟨some 40, none, none, .objs [], .lenS (.v 39)⟩,
  ⟨some 41, none, none, .objs [], .mnx false (.v 40) (.c (.sc (.int .i64 200)))⟩,
  ⟨some 42, none, none, .objs [], .sl 2 (.v 38) none (some (.v 41)) none⟩,
  ⟨some 43, none, none, .objs [], .lenS (.v 42)⟩,
  ⟨some 44, none, none, .objs [], .mv (.c (.sc (.int .i64 0)))⟩]))) <|
  .block 0 (.loop (some [7, 8, 10, 11, 12, 42, 43, 44]) il11l0)) <|
  .seq (.ops ([
  ⟨some 6, none, none, .objs [], .mv (.c (.sc (.bool true)))⟩])) <|
  .ret

theorem il11_eq : cFn Try.prog pol 11 = some ⟨123, il11c, [(6, none)]⟩ := by kernel_rfl
theorem raw11_7_0 {e : FEnv} {h : Heap} : iStep Try.prog pol 11 e h (.raw (opOf Try.prog 11 7 0)) = some (.val (.mp h.length) (h ++ [.map []])) := raw_makeMap (t := 89) (by kernel_rfl)
theorem raw11_16_15 {e : FEnv} {h : Heap} : iStep Try.prog pol 11 e h (.raw (opOf Try.prog 11 16 15)) = vOf h (lkV Try.prog 89 false h (Src.get e (.v 88)) (Src.get e (.v 89))) := raw_lookup (x := (.tmp 88)) (ix := (.tmp 89)) (by kernel_rfl)
theorem raw11_17_13 {e : FEnv} {h : Heap} : iStep Try.prog pol 11 e h (.raw (opOf Try.prog 11 17 13)) = vOf h (binE Try.prog true 65 (.tmp 105) (.tmp 106) (Src.get e (.v 105)) (Src.get e (.v 106))) := raw_neq (x := (.tmp 105)) (y := (.tmp 106)) (s := 65) (by kernel_rfl)
theorem raw11_21_3 {e : FEnv} {h : Heap} : iStep Try.prog pol 11 e h (.raw (opOf Try.prog 11 21 3)) = hOf (upV Try.prog 89 h (Src.get e (.v 112)) (Src.get e (.v 113)) (Src.get e (.c (.sc (.bool true))))) := raw_update (m := (.tmp 112)) (k := (.tmp 113)) (x := (.const (.bool true))) (by kernel_rfl)

noncomputable def il12l0b : C :=
  .seq (.ops ([
  ⟨some 58, none, none, .objs [], .bin .lss false (.v 57) (.c (.sc (.int .i64 2)))⟩])) <|
  .seq (.cond (.v 58) (.nop) (.exit 2)) <|
  .seq (.block 3 (.seq (.ops ([
    ⟨some 59, none, none, .objs [], .mv (.v 57)⟩,
    ⟨some 60, none, none, .objs [], .ixA false 1 2 1 (.v 56) (.v 57)⟩,
    ⟨some 16, none, none, .objs [], .mv (.v 59)⟩,
    ⟨some 17, none, none, .objs [], .mv (.v 60)⟩])) <|
    .seq (.seq (.ops ([
    ⟨some 61, none, none, .objs [], .mv (.v 17)⟩,
    ⟨some 62, none, none, .objs [], .bin .lss false (.v 61) (.c (.sc (.int .i64 0)))⟩,
    ⟨some 63, none, none, .objs [], .mv (.v 62)⟩,
    ⟨some 64, some (63, false), none, .objs [], .mv (.v 17)⟩,
    ⟨some 65, some (63, false), none, .objs [], .mv (.v 13)⟩,
    ⟨some 66, some (63, false), none, .objs [], .bin .geq false (.v 64) (.v 65)⟩,
    ⟨some 67, none, none, .objs [], .pk (.v 63) (.c (.sc (.bool true))) (.v 66)⟩,
    ⟨some 68, none, none, .objs [], .mv (.v 67)⟩,
    ⟨some 69, some (68, false), none, .objs [], .mv (.v 3)⟩] ++ mkL [2, 3, 10, 11, 13, 14, 16, 17, 48, 49, 56, 57, 68, 69] ([
    ⟨some 70, some (68, false), none, .objs [], .mv (.v 17)⟩,
    ⟨some 71, some (68, false), none, .objs [], .iaS 1 (.v 69) (.v 70)⟩,
    ⟨some 72, some (68, false), none, .objs [], .ld false 1 (.v 71)⟩,
    ⟨some 73, some (68, false), none, .objs [], .bin .rem false (.v 72) (.c (.sc (.int .u8 3)))⟩,
    ⟨some 74, some (68, false), none, .objs [], .mv (.v 16)⟩,
    ⟨some 75, some (68, false), none, .objs [], .bin .add false (.c (.sc (.int .i64 1))) (.v 74)⟩,
    ⟨some 76, some (68, false), none, .objs [], .cv .u8 (.v 75)⟩,
    ⟨some 77, some (68, false), none, .objs [], .bin .eql false (.v 73) (.v 76)⟩,
    ⟨some 78, none, none, .objs [], .pk (.v 68) (.c (.sc (.bool true))) (.v 77)⟩]))) <|
    .cond (.v 78) (.exit 3) (.nop)) <|
    .seq (.ops ([
    ⟨some 80, none, none, .objs [], .ld true 6 (.v 11)⟩,
    ⟨some 81, none, none, .objs [], .mv (.v 2)⟩,
    ⟨some 82, none, none, .objs [], .cv .i64 (.v 81)⟩,
    ⟨some 83, none, none, .objs [], .mv (.v 17)⟩,
    ⟨some 84, none, none, .objs [], .bin .add false (.v 82) (.v 83)⟩] ++ mkL [2, 3, 10, 11, 13, 14, 17, 48, 49, 56, 57, 80, 84] ([
    ⟨some 85, none, none, .objs [], .bin .rem false (.v 84) (.c (.sc (.int .i64 65536)))⟩,
    ⟨some 86, none, none, .objs [], .call (.c (.fn (.func 38) [] [])) [(.v 80), (.v 85), (.c (.sc (.int .i64 0)))]⟩,
    ⟨some 79, none, none, .objs [], .mv (.v 86)⟩,
    ⟨some 87, none, none, .objs [], .ex (.v 79) 0⟩,
    ⟨some 88, none, none, .objs [], .ex (.v 79) 1⟩,
    ⟨some 89, none, none, .objs [], .ex (.v 79) 2⟩,
    ⟨some 18, none, none, .objs [], .nw 6 (.agg [(.sc (.int .i64 0)), (.sc (.int .i64 0)), (.sc (.bool false)), (.sc (.int .i64 0)), (.sc (.int .i64 0)), (.sc (.int .u64 0))])⟩,
    ⟨none, none, none, .objs [], .st 6 (.v 18) (.v 87)⟩,
    ⟨some 19, none, none, .objs [], .mv (.v 88)⟩,
    ⟨some 20, none, none, .objs [], .mv (.v 89)⟩]))) <|
    .seq (.seq (.ops ([
    ⟨some 90, none, none, .objs [], .mv (.v 20)⟩,
    ⟨some 91, none, none, .objs [], .bin .neq false (.v 90) (.c (.sc (.int .i64 0)))⟩])) <|
    .cond (.v 91) (.seq (.ops ([
      ⟨some 8, none, none, .objs [], .mv (.c (.sc (.bool false)))⟩])) <|
      .ret) (.nop)) <|
    .seq (.ops ([
    ⟨some 92, none, none, .objs [], .ld true 6 (.v 18)⟩] ++ mkL [2, 3, 10, 11, 13, 14, 17, 19, 48, 49, 56, 57, 92] ([
    ⟨none, none, none, .objs [], .st 6 (.v 11) (.v 92)⟩]))) <|
    .seq (.ops ([
    ⟨some 93, none, none, .objs [], .mv (.v 19)⟩])) <|
    .cond (.v 93) (.ops ([
      ⟨some 94, none, none, .objs [], .mv (.v 14)⟩,
      ⟨some 95, none, none, .objs [], .mv (.v 17)⟩,
      ⟨some 96, none, none, .objs [], .iaS 1 (.v 94) (.v 95)⟩,
      ⟨some 97, none, none, .objs [], .ld false 1 (.v 96)⟩,
      ⟨some 98, none, none, .objs [], .bin .add false (.v 97) (.c (.sc (.int .i64 1)))⟩,
      ⟨some 99, none, none, .objs [], .iaS 1 (.v 94) (.v 95)⟩,
      ⟨none, none, none, .objs [], .st 1 (.v 99) (.v 98)⟩])) (.nop))) <|
  .ops ([
  ⟨some 100, none, none, .objs [], .bin .add false (.v 57) (.c (.sc (.int .i64 1)))⟩,
  ⟨some 57, none, none, .objs [], .mv (.v 100)⟩])
noncomputable def il12l0 : C := il12l0b
theorem il12l0_go {P : Program} {pol : Pol} {K : Oracle} {I : Inl} {n : Nat} {f : FuncId} {R : Xit → FEnv → Heap → Prop} {e : FEnv} {h : Heap} : wc P pol K I n f il12l0 R e h = wc P pol K I n f il12l0b R e h := (fun x => x) rfl

noncomputable def il12l1b : C :=
  .seq (.ops ([
  ⟨some 50, none, none, .objs [], .bin .lss false (.v 49) (.v 48)⟩])) <|
  .seq (.cond (.v 50) (.nop) (.exit 0)) <|
  .seq (.block 1 (.seq (.ops ([
    ⟨some 51, none, none, .objs [], .mv (.v 49)⟩,
    ⟨some 15, none, none, .objs [], .mv (.v 51)⟩])) <|
    .seq (.ops ([
    ⟨some 52, none, none, .objs [], .mv (.v 15)⟩,
    ⟨some 53, none, none, .objs [], .mv (.v 15)⟩,
    ⟨some 54, none, none, .objs [], .mv (.v 10)⟩,
    ⟨some 55, none, none, .objs [], .bin .sub false (.v 53) (.v 54)⟩,
    ⟨some 56, none, none, .objs [], .bd [(.sc (.int .i64 0)), (.sc (.int .i64 0))] [(0, 1, (.v 52)), (1, 1, (.v 55))]⟩,
    ⟨some 57, none, none, .objs [], .mv (.c (.sc (.int .i64 0)))⟩])) <|
    .block 2 (.loop (some [2, 3, 10, 11, 13, 14, 48, 49, 56, 57]) il12l0))) <|
  .ops ([
  ⟨some 101, none, none, .objs [], .bin .add false (.v 49) (.c (.sc (.int .i64 1)))⟩,
  ⟨some 49, none, none, .objs [], .mv (.v 101)⟩])
noncomputable def il12l1 : C := il12l1b
theorem il12l1_go {P : Program} {pol : Pol} {K : Oracle} {I : Inl} {n : Nat} {f : FuncId} {R : Xit → FEnv → Heap → Prop} {e : FEnv} {h : Heap} : wc P pol K I n f il12l1 R e h = wc P pol K I n f il12l1b R e h := (fun x => x) rfl

noncomputable def il12l2b : C :=
  .seq (.ops ([
  ⟨some 105, none, none, .objs [], .bin .lss false (.v 104) (.v 103)⟩])) <|
  .seq (.cond (.v 105) (.nop) (.exit 4)) <|
  .seq (.block 5 (.seq (.ops ([
    ⟨some 106, none, none, .objs [], .iaS 1 (.v 102) (.v 104)⟩,
    ⟨some 107, none, none, .objs [], .ld false 1 (.v 106)⟩,
    ⟨some 22, none, none, .objs [], .mv (.v 107)⟩])) <|
    .seq (.ops ([
    ⟨some 108, none, none, .objs [], .mv (.v 22)⟩,
    ⟨some 109, none, none, .objs [], .bin .neq false (.v 108) (.c (.sc (.int .i64 1)))⟩])) <|
    .cond (.v 109) (.seq (.ops ([
      ⟨some 8, none, none, .objs [], .mv (.c (.sc (.bool false)))⟩])) <|
      .ret) (.nop))) <|
  .ops ([
  ⟨some 110, none, none, .objs [], .bin .add false (.v 104) (.c (.sc (.int .i64 1)))⟩,
  ⟨some 104, none, none, .objs [], .mv (.v 110)⟩])
noncomputable def il12l2 : C := il12l2b
theorem il12l2_go {P : Program} {pol : Pol} {K : Oracle} {I : Inl} {n : Nat} {f : FuncId} {R : Xit → FEnv → Heap → Prop} {e : FEnv} {h : Heap} : wc P pol K I n f il12l2 R e h = wc P pol K I n f il12l2b R e h := (fun x => x) rfl

/-- isochron/isochronlaw40.RecoverMerges -/
noncomputable def il12c : C :=
  .seq (.ops ([
  ⟨some 8, none, none, .objs [], .mv (.c (.sc (.bool false)))⟩])) <|
  .seq (.seq (.ops ([
  ⟨some 23, none, none, .objs [], .call (.c (.fn (.func 30) [] [])) []⟩,
  ⟨some 24, none, none, .objs [], .nt (.v 23)⟩])) <|
  .cond (.v 24) (.seq (.ops ([
    ⟨some 8, none, none, .objs [], .mv (.c (.sc (.bool false)))⟩])) <|
    .ret) (.nop)) <|
  .seq (.ops ([
  ⟨some 25, none, none, .objs [], .mv (.v 0)⟩,
  ⟨some 26, none, none, .objs [], .bin .rem false (.v 25) (.c (.sc (.int .u8 63)))⟩,
  ⟨some 27, none, none, .objs [], .cv .i64 (.v 26)⟩,
  ⟨some 28, none, none, .objs [], .bin .add false (.c (.sc (.int .i64 2))) (.v 27)⟩,
  ⟨some 9, none, none, .objs [], .mv (.v 28)⟩])) <|
  .seq (.ops ([
  ⟨some 29, none, none, .objs [], .mv (.v 1)⟩,
  ⟨some 30, none, none, .objs [], .cv .i64 (.v 29)⟩,
  ⟨some 31, none, none, .objs [], .mv (.v 9)⟩,
  ⟨some 32, none, none, .objs [], .bin .sub false (.v 31) (.c (.sc (.int .i64 1)))⟩,
  ⟨some 33, none, none, .objs [], .bin .rem false (.v 30) (.v 32)⟩] ++ mkL [2, 3, 9, 33] ([
  ⟨some 10, none, none, .objs [], .mv (.v 33)⟩]))) <|
  .seq (.ops ([
  ⟨some 35, none, none, .objs [], .mv (.v 9)⟩,
  ⟨some 36, none, none, .objs [], .call (.c (.fn (.func 37) [] [])) [(.v 35), (.c (.sc (.int .i64 1)))]⟩,
  ⟨some 34, none, none, .objs [], .mv (.v 36)⟩,
  ⟨some 37, none, none, .objs [], .ex (.v 34) 0⟩,
  ⟨some 38, none, none, .objs [], .ex (.v 34) 1⟩,
  ⟨some 11, none, none, .objs [], .nw 6 (.agg [(.sc (.int .i64 0)), (.sc (.int .i64 0)), (.sc (.bool false)), (.sc (.int .i64 0)), (.sc (.int .i64 0)), (.sc (.int .u64 0))])⟩,
  ⟨none, none, none, .objs [], .st 6 (.v 11) (.v 37)⟩,
  ⟨some 12, none, none, .objs [], .mv (.v 38)⟩])) <|
  .seq (.seq (.ops ([
  ⟨some 39, none, none, .objs [], .mv (.v 12)⟩,
  ⟨some 40, none, none, .objs [], .bin .neq false (.v 39) (.c (.sc (.int .i64 0)))⟩])) <|
  .cond (.v 40) (.seq (.ops ([
    ⟨some 8, none, none, .objs [], .mv (.c (.sc (.bool false)))⟩])) <|
    .ret) (.nop)) <|
  .seq (.ops ([
  ⟨some 41, none, none, .objs [], .mv (.v 3)⟩,
  ⟨some 42, none, none, .objs [], .lenS (.v 41)⟩] ++ mkL [2, 3, 10, 11, 42] ([
  ⟨some 43, none, none, .objs [], .mnx false (.v 42) (.c (.sc (.int .i64 150)))⟩,
  ⟨some 13, none, none, .objs [], .mv (.v 43)⟩]))) <|
  .seq (.ops ([
  ⟨some 44, none, none, .objs [], .mv (.v 13)⟩,
  ⟨some 45, none, none, .objs [], .raw (opOf Try.prog 12 9 1)⟩,
  ⟨some 14, none, none, .objs [], .mv (.v 45)⟩])) <|
  .seq (.seq (.ops ([
  ⟨some 46, none, none, .objs [], .mv (.v 13)⟩,
  ⟨some 47, none, none, .objs [], .mv (.v 10)⟩,
  ⟨some 48, none, none, .objs [], .bin .add false (.v 46) (.v 47)⟩,
  ⟨some 49, none, none, .objs [], .mv (.c (.sc (.int .i64 0)))⟩])) <|
  .block 0 (.loop (some [2, 3, 10, 11, 13, 14, 48, 49]) il12l1)) <|
  .seq (.seq (.ops ([
  ⟨some 102, none, none, .objs [], .mv (.v 14)⟩,
  ⟨some 103, none, none, .objs [], .lenS (.v 102)⟩,
  ⟨some 104, none, none, .objs [], .mv (.c (.sc (.int .i64 0)))⟩])) <|
  .block 4 (.loop (some [102, 103, 104]) il12l2)) <|
  .seq (.ops ([
  ⟨some 8, none, none, .objs [], .mv (.c (.sc (.bool true)))⟩])) <|
  .ret

theorem il12_eq : cFn Try.prog pol 12 = some ⟨111, il12c, [(8, none)]⟩ := by kernel_rfl
theorem raw12_9_1 {e : FEnv} {h : Heap} : iStep Try.prog pol 12 e h (.raw (opOf Try.prog 12 9 1)) = mkSl 1 8 (.sc (.int .i64 0)) h (asNat (Src.get e (.v 44))) (asNat (Src.get e (.v 44))) := raw_makeSlice (t := 37) (l := (.tmp 44)) (c := (.tmp 44)) (elem := 3) (by kernel_rfl) (by kernel_rfl) (by kernel_rfl) (by kernel_rfl) (by kernel_rfl) (by kernel_rfl)

noncomputable def il13l0b : C :=
  .seq (.ops ([
  ⟨some 43, none, none, .objs [], .bin .lss false (.v 42) (.v 41)⟩])) <|
  .seq (.cond (.v 43) (.nop) (.exit 0)) <|
  .seq (.block 1 (.seq (.ops ([
    ⟨some 44, none, none, .objs [], .mv (.v 42)⟩,
    ⟨some 45, none, none, .objs [], .iaS 1 (.v 40) (.v 42)⟩,
    ⟨some 46, none, none, .objs [], .ld false 1 (.v 45)⟩,
    ⟨some 13, none, none, .objs [], .mv (.v 44)⟩,
    ⟨some 14, none, none, .objs [], .mv (.v 46)⟩])) <|
    .seq (.ops ([
    ⟨some 47, none, none, .objs [], .mv (.v 0)⟩,
    ⟨some 48, none, none, .objs [], .cv .i64 (.v 47)⟩,
    ⟨some 49, none, none, .objs [], .mv (.v 14)⟩,
    ⟨some 50, none, none, .objs [], .cv .i64 (.v 49)⟩,
    ⟨some 51, none, none, .objs [], .bin .rem false (.v 50) (.c (.sc (.int .i64 4)))⟩,
    ⟨some 52, none, none, .objs [], .bin .add false (.v 48) (.v 51)⟩,
    ⟨some 53, none, none, .objs [], .bin .add false (.v 52) (.c (.sc (.int .i64 65536)))⟩,
    ⟨some 54, none, none, .objs [], .bin .rem false (.v 53) (.c (.sc (.int .i64 65536)))⟩] ++ mkL [0, 2, 3, 4, 11, 13, 40, 41, 42, 54] ([
    ⟨some 15, none, none, .objs [], .mv (.v 54)⟩]))) <|
    .seq (.ops ([
    ⟨some 55, none, none, .objs [], .ld true 6 (.v 11)⟩,
    ⟨some 16, none, none, .objs [], .nw 6 (.agg [(.sc (.int .i64 0)), (.sc (.int .i64 0)), (.sc (.bool false)), (.sc (.int .i64 0)), (.sc (.int .i64 0)), (.sc (.int .u64 0))])⟩,
    ⟨none, none, none, .objs [], .st 6 (.v 16) (.v 55)⟩])) <|
    .seq (.ops ([
    ⟨some 57, none, none, .objs [], .ld true 6 (.v 11)⟩,
    ⟨some 58, none, none, .objs [], .mv (.v 15)⟩,
    ⟨some 59, none, none, .objs [], .call (.c (.fn (.func 38) [] [])) [(.v 57), (.v 58), (.c (.sc (.int .i64 0)))]⟩,
    ⟨some 56, none, none, .objs [], .mv (.v 59)⟩,
    ⟨some 60, none, none, .objs [], .ex (.v 56) 0⟩,
    ⟨some 61, none, none, .objs [], .ex (.v 56) 1⟩,
    ⟨some 62, none, none, .objs [], .ex (.v 56) 2⟩,
    ⟨some 17, none, none, .objs [], .nw 6 (.agg [(.sc (.int .i64 0)), (.sc (.int .i64 0)), (.sc (.bool false)), (.sc (.int .i64 0)), (.sc (.int .i64 0)), (.sc (.int .u64 0))])⟩,
    ⟨none, none, none, .objs [], .st 6 (.v 17) (.v 60)⟩,
    ⟨some 18, none, none, .objs [], .mv (.v 61)⟩] ++ mkL [0, 2, 3, 4, 11, 13, 15, 16, 17, 18, 40, 41, 42, 62] ([
    ⟨some 19, none, none, .objs [], .mv (.v 62)⟩]))) <|
    .seq (.seq (.ops ([
    ⟨some 63, none, none, .objs [], .mv (.v 19)⟩,
    ⟨some 64, none, none, .objs [], .bin .neq false (.v 63) (.c (.sc (.int .i64 0)))⟩,
    ⟨some 65, none, none, .objs [], .mv (.v 64)⟩,
    ⟨some 66, some (65, false), none, .objs [], .mv (.v 18)⟩,
    ⟨some 67, some (65, false), none, .objs [], .mv (.v 13)⟩,
    ⟨some 68, some (65, false), none, .objs [], .bin .eql false (.v 67) (.c (.sc (.int .i64 0)))⟩,
    ⟨some 69, some (65, false), none, .objs [], .bin .neq true (.v 66) (.v 68)⟩,
    ⟨some 70, none, none, .objs [], .pk (.v 65) (.c (.sc (.bool true))) (.v 69)⟩,
    ⟨some 71, none, none, .objs [], .mv (.v 70)⟩,
    ⟨some 72, some (71, false), none, .objs [], .mv (.v 18)⟩,
    ⟨some 73, some (71, false), none, .objs [], .mv (.v 72)⟩,
    ⟨some 74, some (73, true), none, .objs [], .fa 3 (.v 17)⟩,
    ⟨some 75, some (73, true), none, .objs [], .ld false 1 (.v 74)⟩] ++ mkL [0, 2, 3, 4, 11, 15, 16, 17, 18, 40, 41, 42, 71, 73, 75] ([
    ⟨some 76, some (73, true), none, .objs [], .mv (.v 15)⟩,
    ⟨some 77, some (73, true), none, .objs [], .bin .neq false (.v 75) (.v 76)⟩,
    ⟨some 78, some (71, false), none, .objs [], .pk (.v 73) (.v 77) (.c (.sc (.bool false)))⟩,
    ⟨some 79, none, none, .objs [], .pk (.v 71) (.c (.sc (.bool true))) (.v 78)⟩,
    ⟨some 80, none, none, .objs [], .mv (.v 79)⟩,
    ⟨some 81, some (80, false), none, .objs [], .mv (.v 18)⟩,
    ⟨some 82, some (80, false), none, .objs [], .nt (.v 81)⟩,
    ⟨some 83, some (80, false), none, .objs [], .mv (.v 82)⟩,
    ⟨some 84, some (83, true), none, .objs [], .ld true 6 (.v 17)⟩,
    ⟨some 85, some (83, true), none, .objs [], .ld true 6 (.v 16)⟩,
    ⟨some 86, some (83, true), none, .objs [], .raw (opOf Try.prog 13 12 23)⟩,
    ⟨some 87, some (80, false), none, .objs [], .pk (.v 83) (.v 86) (.c (.sc (.bool false)))⟩,
    ⟨some 88, none, none, .objs [], .pk (.v 80) (.c (.sc (.bool true))) (.v 87)⟩]))) <|
    .cond (.v 88) (.seq (.ops ([
      ⟨some 10, none, none, .objs [], .mv (.c (.sc (.bool false)))⟩])) <|
      .ret) (.nop)) <| mkC [0, 2, 3, 4, 11, 17, 40, 41, 42] <|
    .ops ([
    ⟨some 89, none, none, .objs [], .ld true 6 (.v 17)⟩,
    ⟨none, none, none, .objs [], .st 6 (.v 11) (.v 89)⟩]))) <|
  .ops ([
  ⟨some 90, none, none, .objs [], .bin .add false (.v 42) (.c (.sc (.int .i64 1)))⟩,
  ⟨some 42, none, none, .objs [], .mv (.v 90)⟩])
noncomputable def il13l0 : C := il13l0b
theorem il13l0_go {P : Program} {pol : Pol} {K : Oracle} {I : Inl} {n : Nat} {f : FuncId} {R : Xit → FEnv → Heap → Prop} {e : FEnv} {h : Heap} : wc P pol K I n f il13l0 R e h = wc P pol K I n f il13l0b R e h := (fun x => x) rfl

/-- isochron/isochronlaw40.RecoverRises -/
noncomputable def il13c : C :=
  .seq (.ops ([
  ⟨some 10, none, none, .objs [], .mv (.c (.sc (.bool false)))⟩])) <|
  .seq (.seq (.ops ([
  ⟨some 28, none, none, .objs [], .call (.c (.fn (.func 30) [] [])) []⟩,
  ⟨some 29, none, none, .objs [], .nt (.v 28)⟩])) <|
  .cond (.v 29) (.seq (.ops ([
    ⟨some 10, none, none, .objs [], .mv (.c (.sc (.bool false)))⟩])) <|
    .ret) (.nop)) <|
  .seq (.ops ([
  ⟨some 31, none, none, .objs [], .call (.c (.fn (.func 37) [] [])) [(.c (.sc (.int .i64 1))), (.c (.sc (.int .i64 9)))]⟩,
  ⟨some 30, none, none, .objs [], .mv (.v 31)⟩,
  ⟨some 32, none, none, .objs [], .ex (.v 30) 0⟩,
  ⟨some 33, none, none, .objs [], .ex (.v 30) 1⟩,
  ⟨some 11, none, none, .objs [], .nw 6 (.agg [(.sc (.int .i64 0)), (.sc (.int .i64 0)), (.sc (.bool false)), (.sc (.int .i64 0)), (.sc (.int .i64 0)), (.sc (.int .u64 0))])⟩,
  ⟨none, none, none, .objs [], .st 6 (.v 11) (.v 32)⟩,
  ⟨some 12, none, none, .objs [], .mv (.v 33)⟩])) <|
  .seq (.seq (.ops ([
  ⟨some 34, none, none, .objs [], .mv (.v 12)⟩,
  ⟨some 35, none, none, .objs [], .bin .neq false (.v 34) (.c (.sc (.int .i64 0)))⟩])) <|
  .cond (.v 35) (.seq (.ops ([
    ⟨some 10, none, none, .objs [], .mv (.c (.sc (.bool false)))⟩])) <|
    .ret) (.nop)) <| mkC [0, 1, 2, 3, 4, 11] <|
  .seq (.seq (.ops ([
  ⟨some 36, none, none, .objs [], .mv (.v 1)⟩,
  ⟨some 37, none, none, .objs [], .mv (.v 1)⟩,
  ⟨some 38, none, none, .objs [], .lenS (.v 37)⟩,
  ⟨some 39, none, none, .objs [], .mnx false (.v 38) (.c (.sc (.int .i64 100)))⟩,
  ⟨some 40, none, none, .objs [], .sl 1 (.v 36) none (some (.v 39)) none⟩,
  ⟨some 41, none, none, .objs [], .lenS (.v 40)⟩,
  ⟨some 42, none, none, .objs [], .mv (.c (.sc (.int .i64 0)))⟩])) <|
  .block 0 (.loop (some [0, 2, 3, 4, 11, 40, 41, 42]) il13l0)) <|
  .seq (.ops ([
  ⟨some 92, none, none, .objs [], .mv (.v 2)⟩,
  ⟨some 93, none, none, .objs [], .bin .rem false (.v 92) (.c (.sc (.int .u8 64)))⟩,
  ⟨some 94, none, none, .objs [], .cv .i64 (.v 93)⟩,
  ⟨some 95, none, none, .objs [], .bin .add false (.c (.sc (.int .i64 1))) (.v 94)⟩,
  ⟨some 96, none, none, .objs [], .mv (.v 3)⟩,
  ⟨some 97, none, none, .objs [], .cv .i64 (.v 96)⟩,
  ⟨some 98, none, none, .objs [], .bin .add false (.c (.sc (.int .i64 1))) (.v 97)⟩,
  ⟨some 99, none, none, .objs [], .call (.c (.fn (.func 37) [] [])) [(.v 95), (.v 98)]⟩,
  ⟨some 91, none, none, .objs [], .mv (.v 99)⟩,
  ⟨some 100, none, none, .objs [], .ex (.v 91) 0⟩,
  ⟨some 101, none, none, .objs [], .ex (.v 91) 1⟩,
  ⟨some 20, none, none, .objs [], .nw 6 (.agg [(.sc (.int .i64 0)), (.sc (.int .i64 0)), (.sc (.bool false)), (.sc (.int .i64 0)), (.sc (.int .i64 0)), (.sc (.int .u64 0))])⟩,
  ⟨none, none, none, .objs [], .st 6 (.v 20) (.v 100)⟩,
  ⟨some 12, none, none, .objs [], .mv (.v 101)⟩])) <| mkC [0, 4, 12, 20] <|
  .seq (.seq (.ops ([
  ⟨some 102, none, none, .objs [], .mv (.v 12)⟩,
  ⟨some 103, none, none, .objs [], .bin .neq false (.v 102) (.c (.sc (.int .i64 0)))⟩])) <|
  .cond (.v 103) (.seq (.ops ([
    ⟨some 10, none, none, .objs [], .mv (.c (.sc (.bool false)))⟩])) <|
    .ret) (.nop)) <|
  .seq (.ops ([
  ⟨some 105, none, none, .objs [], .ld true 6 (.v 20)⟩,
  ⟨some 106, none, none, .objs [], .mv (.v 0)⟩,
  ⟨some 107, none, none, .objs [], .cv .i64 (.v 106)⟩,
  ⟨some 108, none, none, .objs [], .call (.c (.fn (.func 38) [] [])) [(.v 105), (.v 107), (.c (.sc (.int .i64 7)))]⟩,
  ⟨some 104, none, none, .objs [], .mv (.v 108)⟩,
  ⟨some 109, none, none, .objs [], .ex (.v 104) 0⟩,
  ⟨some 110, none, none, .objs [], .ex (.v 104) 1⟩,
  ⟨some 111, none, none, .objs [], .ex (.v 104) 2⟩,
  ⟨none, none, none, .objs [], .st 6 (.v 20) (.v 109)⟩,
  ⟨some 21, none, none, .objs [], .mv (.v 110)⟩,
  ⟨some 12, none, none, .objs [], .mv (.v 111)⟩])) <| mkC [0, 4, 12, 20, 21] <|
  .seq (.seq (.ops ([
  ⟨some 112, none, none, .objs [], .mv (.v 12)⟩,
  ⟨some 113, none, none, .objs [], .bin .neq false (.v 112) (.c (.sc (.int .i64 0)))⟩,
  ⟨some 114, none, none, .objs [], .mv (.v 113)⟩,
  ⟨some 115, some (114, false), none, .objs [], .mv (.v 21)⟩,
  ⟨some 116, some (114, false), none, .objs [], .nt (.v 115)⟩,
  ⟨some 117, none, none, .objs [], .pk (.v 114) (.c (.sc (.bool true))) (.v 116)⟩])) <|
  .cond (.v 117) (.seq (.ops ([
    ⟨some 10, none, none, .objs [], .mv (.c (.sc (.bool false)))⟩])) <|
    .ret) (.nop)) <|
  .seq (.ops ([
  ⟨some 118, none, none, .objs [], .mv (.v 0)⟩,
  ⟨some 119, none, none, .objs [], .cv .i64 (.v 118)⟩,
  ⟨some 120, none, none, .objs [], .bin .add false (.v 119) (.c (.sc (.int .i64 64)))⟩,
  ⟨some 121, none, none, .objs [], .mv (.v 4)⟩,
  ⟨some 122, none, none, .objs [], .cv .i64 (.v 121)⟩,
  ⟨some 123, none, none, .objs [], .bin .rem false (.v 122) (.c (.sc (.int .i64 65408)))⟩,
  ⟨some 124, none, none, .objs [], .bin .add false (.v 120) (.v 123)⟩] ++ mkL [20, 124] ([
  ⟨some 125, none, none, .objs [], .bin .rem false (.v 124) (.c (.sc (.int .i64 65536)))⟩,
  ⟨some 22, none, none, .objs [], .mv (.v 125)⟩]))) <|
  .seq (.ops ([
  ⟨some 127, none, none, .objs [], .ld true 6 (.v 20)⟩,
  ⟨some 128, none, none, .objs [], .mv (.v 22)⟩,
  ⟨some 129, none, none, .objs [], .fa 1 (.v 20)⟩,
  ⟨some 130, none, none, .objs [], .ld false 1 (.v 129)⟩,
  ⟨some 131, none, none, .objs [], .bin .add false (.c (.sc (.int .i64 7))) (.v 130)⟩,
  ⟨some 132, none, none, .objs [], .call (.c (.fn (.func 38) [] [])) [(.v 127), (.v 128), (.v 131)]⟩,
  ⟨some 126, none, none, .objs [], .mv (.v 132)⟩,
  ⟨some 133, none, none, .objs [], .ex (.v 126) 0⟩,
  ⟨some 134, none, none, .objs [], .ex (.v 126) 1⟩,
  ⟨some 135, none, none, .objs [], .ex (.v 126) 2⟩,
  ⟨some 23, none, none, .objs [], .nw 6 (.agg [(.sc (.int .i64 0)), (.sc (.int .i64 0)), (.sc (.bool false)), (.sc (.int .i64 0)), (.sc (.int .i64 0)), (.sc (.int .u64 0))])⟩,
  ⟨none, none, none, .objs [], .st 6 (.v 23) (.v 133)⟩] ++ mkL [20, 22, 134, 135] ([
  ⟨some 24, none, none, .objs [], .mv (.v 134)⟩,
  ⟨some 12, none, none, .objs [], .mv (.v 135)⟩]))) <|
  .seq (.ops ([
  ⟨some 137, none, none, .objs [], .ld true 6 (.v 20)⟩,
  ⟨some 138, none, none, .objs [], .mv (.v 22)⟩,
  ⟨some 139, none, none, .objs [], .fa 1 (.v 20)⟩,
  ⟨some 140, none, none, .objs [], .ld false 1 (.v 139)⟩,
  ⟨some 141, none, none, .objs [], .bin .add false (.c (.sc (.int .i64 8))) (.v 140)⟩,
  ⟨some 142, none, none, .objs [], .call (.c (.fn (.func 38) [] [])) [(.v 137), (.v 138), (.v 141)]⟩,
  ⟨some 136, none, none, .objs [], .mv (.v 142)⟩,
  ⟨some 143, none, none, .objs [], .ex (.v 136) 0⟩,
  ⟨some 144, none, none, .objs [], .ex (.v 136) 1⟩,
  ⟨some 145, none, none, .objs [], .ex (.v 136) 2⟩,
  ⟨some 25, none, none, .objs [], .nw 6 (.agg [(.sc (.int .i64 0)), (.sc (.int .i64 0)), (.sc (.bool false)), (.sc (.int .i64 0)), (.sc (.int .i64 0)), (.sc (.int .u64 0))])⟩,
  ⟨none, none, none, .objs [], .st 6 (.v 25) (.v 143)⟩] ++ mkL [12, 24, 144, 145] ([
  ⟨some 26, none, none, .objs [], .mv (.v 144)⟩,
  ⟨some 27, none, none, .objs [], .mv (.v 145)⟩]))) <|
  .seq (.ops ([
  ⟨some 146, none, none, .objs [], .mv (.v 12)⟩,
  ⟨some 147, none, none, .objs [], .bin .eql false (.v 146) (.c (.sc (.int .i64 0)))⟩,
  ⟨some 148, none, none, .objs [], .mv (.v 147)⟩,
  ⟨some 149, some (148, true), none, .objs [], .mv (.v 27)⟩,
  ⟨some 150, some (148, true), none, .objs [], .bin .eql false (.v 149) (.c (.sc (.int .i64 0)))⟩,
  ⟨some 151, none, none, .objs [], .pk (.v 148) (.v 150) (.c (.sc (.bool false)))⟩,
  ⟨some 152, none, none, .objs [], .mv (.v 151)⟩,
  ⟨some 153, some (152, true), none, .objs [], .mv (.v 24)⟩,
  ⟨some 154, some (152, true), none, .objs [], .nt (.v 153)⟩,
  ⟨some 155, none, none, .objs [], .pk (.v 152) (.v 154) (.c (.sc (.bool false)))⟩,
  ⟨some 156, none, none, .objs [], .mv (.v 155)⟩,
  ⟨some 157, some (156, true), none, .objs [], .mv (.v 26)⟩] ++ mkL [156, 157] ([
  ⟨some 158, none, none, .objs [], .pk (.v 156) (.v 157) (.c (.sc (.bool false)))⟩,
  ⟨some 10, none, none, .objs [], .mv (.v 158)⟩]))) <|
  .ret

theorem il13_eq : cFn Try.prog pol 13 = some ⟨159, il13c, [(10, none)]⟩ := by kernel_rfl
theorem raw13_12_23 {e : FEnv} {h : Heap} : iStep Try.prog pol 13 e h (.raw (opOf Try.prog 13 12 23)) = vOf h (binE Try.prog true 65 (.tmp 84) (.tmp 85) (Src.get e (.v 84)) (Src.get e (.v 85))) := raw_neq (x := (.tmp 84)) (y := (.tmp 85)) (s := 65) (by kernel_rfl)

/-- isochron/seq.Delta -/
noncomputable def il16c : C :=
  .seq (.ops ([
  ⟨some 4, none, none, .objs [], .mv (.c (.sc (.int .i64 0)))⟩,
  ⟨some 5, none, none, .objs [], .mv (.c (.sc (.int .i64 0)))⟩])) <|
  .seq (.seq (.ops ([
  ⟨some 6, none, none, .objs [], .mv (.v 0)⟩,
  ⟨some 7, none, none, .objs [], .call (.c (.fn (.func 41) [] [])) [(.v 6)]⟩,
  ⟨some 8, none, none, .objs [], .nt (.v 7)⟩,
  ⟨some 9, none, none, .objs [], .mv (.v 8)⟩,
  ⟨some 10, some (9, false), none, .objs [], .mv (.v 1)⟩,
  ⟨some 11, some (9, false), none, .objs [], .call (.c (.fn (.func 41) [] [])) [(.v 10)]⟩,
  ⟨some 12, some (9, false), none, .objs [], .nt (.v 11)⟩,
  ⟨some 13, none, none, .objs [], .pk (.v 9) (.c (.sc (.bool true))) (.v 12)⟩])) <|
  .cond (.v 13) (.seq (.ops ([
    ⟨some 4, none, none, .objs [], .mv (.c (.sc (.int .i64 0)))⟩,
    ⟨some 5, none, none, .objs [], .mv (.c (.sc (.int .i64 2)))⟩])) <|
    .ret) (.nop)) <|
  .seq (.ops ([
  ⟨some 14, none, none, .objs [], .mv (.v 1)⟩,
  ⟨some 15, none, none, .objs [], .mv (.v 0)⟩] ++ mkL [14, 15] ([
  ⟨some 16, none, none, .objs [], .bin .sub false (.v 14) (.v 15)⟩,
  ⟨some 17, none, none, .objs [], .bin .add false (.v 16) (.c (.sc (.int .i64 32768)))⟩,
  ⟨some 18, none, none, .objs [], .call (.c (.fn (.func 42) [] [])) [(.v 17)]⟩,
  ⟨some 19, none, none, .objs [], .bin .sub false (.v 18) (.c (.sc (.int .i64 32768)))⟩,
  ⟨some 4, none, none, .objs [], .mv (.v 19)⟩,
  ⟨some 5, none, none, .objs [], .mv (.c (.sc (.int .i64 0)))⟩]))) <|
  .ret

theorem il16_eq : cFn Try.prog pol 16 = some ⟨20, il16c, [(4, none), (5, none)]⟩ := by kernel_rfl

/-- isochron/seq.After -/
noncomputable def il17c : C :=
  .seq (.ops ([
  ⟨some 4, none, none, .objs [], .mv (.c (.sc (.int .i64 0)))⟩,
  ⟨some 5, none, none, .objs [], .mv (.c (.sc (.int .i64 0)))⟩])) <|
  .seq (.seq (.ops ([
  ⟨some 6, none, none, .objs [], .mv (.v 0)⟩,
  ⟨some 7, none, none, .objs [], .call (.c (.fn (.func 41) [] [])) [(.v 6)]⟩,
  ⟨some 8, none, none, .objs [], .nt (.v 7)⟩])) <|
  .cond (.v 8) (.seq (.ops ([
    ⟨some 4, none, none, .objs [], .mv (.c (.sc (.int .i64 0)))⟩,
    ⟨some 5, none, none, .objs [], .mv (.c (.sc (.int .i64 2)))⟩])) <|
    .ret) (.nop)) <|
  .seq (.ops ([
  ⟨some 9, none, none, .objs [], .mv (.v 0)⟩,
  ⟨some 10, none, none, .objs [], .mv (.v 1)⟩,
  ⟨some 11, none, none, .objs [], .call (.c (.fn (.func 42) [] [])) [(.v 10)]⟩,
  ⟨some 12, none, none, .objs [], .bin .add false (.v 9) (.v 11)⟩,
  ⟨some 13, none, none, .objs [], .call (.c (.fn (.func 42) [] [])) [(.v 12)]⟩,
  ⟨some 4, none, none, .objs [], .mv (.v 13)⟩,
  ⟨some 5, none, none, .objs [], .mv (.c (.sc (.int .i64 0)))⟩])) <|
  .ret

theorem il17_eq : cFn Try.prog pol 17 = some ⟨14, il17c, [(4, none), (5, none)]⟩ := by kernel_rfl

noncomputable def il18l0b : C :=
  .seq (.seq (.ops ([
  ⟨some 6, none, none, .objs [], .mv (.v 5)⟩,
  ⟨some 7, none, none, .objs [], .bin .lss false (.v 6) (.c (.sc (.int .i64 32768)))⟩])) <|
  .cond (.v 7) (.nop) (.exit 0)) <|
  .seq (.block 1 (.seq (.ops ([
    ⟨some 10, none, none, .objs [], .mv (.v 0)⟩,
    ⟨some 11, none, none, .objs [], .mv (.v 5)⟩,
    ⟨some 12, none, none, .objs [], .call (.c (.fn (.func 19) [] [])) [(.v 10), (.v 11)]⟩,
    ⟨some 13, none, none, .objs [], .mv (.v 1)⟩,
    ⟨some 14, none, none, .objs [], .bin .eql false (.v 12) (.v 13)⟩])) <|
    .cond (.v 14) (.seq (.ops ([
      ⟨some 15, none, none, .objs [], .mv (.v 5)⟩,
      ⟨some 4, none, none, .objs [], .mv (.v 15)⟩])) <|
      .ret) (.nop))) <|
  .ops ([
  ⟨some 8, none, none, .objs [], .mv (.v 5)⟩,
  ⟨some 9, none, none, .objs [], .bin .add false (.v 8) (.c (.sc (.int .i64 1)))⟩,
  ⟨some 5, none, none, .objs [], .mv (.v 9)⟩])
noncomputable def il18l0 : C := il18l0b
theorem il18l0_go {P : Program} {pol : Pol} {K : Oracle} {I : Inl} {n : Nat} {f : FuncId} {R : Xit → FEnv → Heap → Prop} {e : FEnv} {h : Heap} : wc P pol K I n f il18l0 R e h = wc P pol K I n f il18l0b R e h := (fun x => x) rfl

/-- isochron/isochronref39.Delta -/
noncomputable def il18c : C :=
  .seq (.ops ([
  ⟨some 4, none, none, .objs [], .mv (.c (.sc (.int .i64 0)))⟩])) <|
  .seq (.seq (.ops ([
  ⟨some 5, none, none, .objs [], .mv (.c (.sc (.int .i64 (-32768))))⟩])) <|
  .block 0 (.loop (some [0, 1, 5]) il18l0)) <|
  .seq (.ops ([
  ⟨some 4, none, none, .objs [], .mv (.c (.sc (.int .i64 0)))⟩])) <|
  .ret

theorem il18_eq : cFn Try.prog pol 18 = some ⟨16, il18c, [(4, none)]⟩ := by kernel_rfl

/-- isochron/isochronref39.After -/
noncomputable def il19c : C :=
  .seq (.ops ([
  ⟨some 4, none, none, .objs [], .mv (.c (.sc (.int .i64 0)))⟩])) <|
  .seq (.ops ([
  ⟨some 6, none, none, .objs [], .mv (.v 0)⟩,
  ⟨some 7, none, none, .objs [], .mv (.v 1)⟩,
  ⟨some 8, none, none, .objs [], .bin .rem false (.v 7) (.c (.sc (.int .i64 65536)))⟩,
  ⟨some 9, none, none, .objs [], .bin .add false (.v 6) (.v 8)⟩,
  ⟨some 10, none, none, .objs [], .bin .rem false (.v 9) (.c (.sc (.int .i64 65536)))⟩,
  ⟨some 5, none, none, .objs [], .mv (.v 10)⟩])) <|
  .seq (.seq (.ops ([
  ⟨some 11, none, none, .objs [], .mv (.v 5)⟩,
  ⟨some 12, none, none, .objs [], .bin .lss false (.v 11) (.c (.sc (.int .i64 0)))⟩])) <|
  .cond (.v 12) (.ops ([
    ⟨some 13, none, none, .objs [], .mv (.v 5)⟩,
    ⟨some 14, none, none, .objs [], .bin .add false (.v 13) (.c (.sc (.int .i64 65536)))⟩,
    ⟨some 5, none, none, .objs [], .mv (.v 14)⟩])) (.nop)) <|
  .seq (.ops ([
  ⟨some 15, none, none, .objs [], .mv (.v 5)⟩,
  ⟨some 4, none, none, .objs [], .mv (.v 15)⟩])) <|
  .ret

theorem il19_eq : cFn Try.prog pol 19 = some ⟨16, il19c, [(4, none)]⟩ := by kernel_rfl

/-- isochron/isochronref39.Number -/
noncomputable def il20c : C :=
  .seq (.ops ([
  ⟨some 2, none, none, .objs [], .mv (.c (.sc (.bool false)))⟩])) <|
  .seq (.ops ([
  ⟨some 3, none, none, .objs [], .mv (.v 0)⟩,
  ⟨some 4, none, none, .objs [], .bin .geq false (.v 3) (.c (.sc (.int .i64 0)))⟩,
  ⟨some 5, none, none, .objs [], .mv (.v 4)⟩,
  ⟨some 6, some (5, true), none, .objs [], .mv (.v 0)⟩,
  ⟨some 7, some (5, true), none, .objs [], .bin .leq false (.v 6) (.c (.sc (.int .i64 65535)))⟩,
  ⟨some 8, none, none, .objs [], .pk (.v 5) (.v 7) (.c (.sc (.bool false)))⟩,
  ⟨some 2, none, none, .objs [], .mv (.v 8)⟩])) <|
  .ret

theorem il20_eq : cFn Try.prog pol 20 = some ⟨9, il20c, [(2, none)]⟩ := by kernel_rfl

/-- isochron/seq.Copies -/
noncomputable def il21c : C :=
  .seq (.ops ([
  ⟨some 2, none, none, .objs [], .bx false (.v 0)⟩,
  ⟨some 4, none, none, .objs [], .mv (.c (.sc (.slice none 0 0)))⟩,
  ⟨some 5, none, none, .objs [], .mv (.c (.sc (.int .i64 0)))⟩])) <|
  .seq (.seq (.ops ([
  ⟨some 8, none, none, .objs [], .fa 0 (.v 2)⟩,
  ⟨some 9, none, none, .objs [], .ld false 1 (.v 8)⟩,
  ⟨some 10, none, none, .objs [], .call (.c (.fn (.func 43) [] [])) [(.v 9)]⟩,
  ⟨some 11, none, none, .objs [], .nt (.v 10)⟩,
  ⟨some 12, none, none, .objs [], .mv (.v 11)⟩,
  ⟨some 13, some (12, false), none, .objs [], .fa 1 (.v 2)⟩,
  ⟨some 14, some (12, false), none, .objs [], .ld false 1 (.v 13)⟩,
  ⟨some 15, some (12, false), none, .objs [], .call (.c (.fn (.func 41) [] [])) [(.v 14)]⟩,
  ⟨some 16, some (12, false), none, .objs [], .nt (.v 15)⟩,
  ⟨some 17, none, none, .objs [], .pk (.v 12) (.c (.sc (.bool true))) (.v 16)⟩,
  ⟨some 18, none, none, .objs [], .mv (.v 17)⟩] ++ mkL [1, 2, 4, 5, 18] ([
  ⟨some 19, some (18, false), none, .objs [], .mv (.v 1)⟩,
  ⟨some 20, some (18, false), none, .objs [], .lenS (.v 19)⟩,
  ⟨some 21, some (18, false), none, .objs [], .bin .eql false (.v 20) (.c (.sc (.int .i64 0)))⟩,
  ⟨some 22, none, none, .objs [], .pk (.v 18) (.c (.sc (.bool true))) (.v 21)⟩,
  ⟨some 23, none, none, .objs [], .mv (.v 22)⟩,
  ⟨some 24, some (23, false), none, .objs [], .mv (.v 1)⟩,
  ⟨some 25, some (23, false), none, .objs [], .lenS (.v 24)⟩,
  ⟨some 26, some (23, false), none, .objs [], .bin .gtr false (.v 25) (.c (.sc (.int .i64 2)))⟩,
  ⟨some 27, none, none, .objs [], .pk (.v 23) (.c (.sc (.bool true))) (.v 26)⟩]))) <|
  .cond (.v 27) (.seq (.ops ([
    ⟨some 4, none, none, .objs [], .mv (.c (.sc (.slice none 0 0)))⟩,
    ⟨some 5, none, none, .objs [], .mv (.c (.sc (.int .i64 2)))⟩])) <|
    .ret) (.nop)) <|
  .seq (.ops ([
  ⟨some 6, none, none, .objs [], .nwG 6⟩])) <|
  .seq (.seq (.ops ([
  ⟨some 28, none, none, .objs [], .ld true 5 (.v 2)⟩,
  ⟨some 29, none, none, .objs [], .mv (.v 1)⟩] ++ mkL [4, 5, 6, 28, 29] ([
  ⟨some 30, none, none, .objs [], .call (.c (.fn (.func 44) [] [])) [(.v 28), (.v 29)]⟩]))) <|
  .block 0 (.rangeF 37 (some [6]) (.v 30) [31] (rfOf Try.prog 21 0).1 (rfOf Try.prog 21 0).2)) <|
  .seq (.ops ([
  ⟨some 36, none, none, .objs [], .ld false 1 (.v 6)⟩,
  ⟨some 4, none, none, .objs [], .mv (.v 36)⟩,
  ⟨some 5, none, none, .objs [], .mv (.c (.sc (.int .i64 0)))⟩])) <|
  .ret

theorem il21_eq : cFn Try.prog pol 21 = some ⟨37, il21c, [(4, none), (5, none)]⟩ := by kernel_rfl

noncomputable def il22l0b : C :=
  .seq (.ops ([
  ⟨some 14, none, none, .objs [], .bin .lss false (.v 13) (.v 12)⟩])) <|
  .seq (.cond (.v 14) (.nop) (.exit 0)) <|
  .seq (.block 1 (.seq (.ops ([
    ⟨some 15, none, none, .objs [], .mv (.v 13)⟩,
    ⟨some 5, none, none, .objs [], .mv (.v 15)⟩])) <|
    .seq (.opsD [] ([
    ⟨some 16, none, none, .objs [], .mv (.v 0)⟩,
    ⟨some 17, none, none, .objs [], .mv (.v 5)⟩,
    ⟨some 18, none, none, .objs [], .iaS 1 (.v 16) (.v 17)⟩,
    ⟨some 19, none, none, .objs [(.v 18)], .ld false 1 (.v 18)⟩,
    ⟨some 20, none, none, .objs [], .mv (.v 1)⟩,
    ⟨some 21, none, none, .objs [], .mv (.v 5)⟩,
    ⟨some 22, none, none, .objs [], .iaS 1 (.v 20) (.v 21)⟩,
    ⟨some 23, none, none, .objs [(.v 22)], .ld false 1 (.v 22)⟩,
    ⟨some 24, none, none, .objs [], .bin .neq false (.v 19) (.v 23)⟩])) <|
    .cond (.v 24) (.seq (.ops ([
      ⟨some 4, none, none, .objs [], .mv (.c (.sc (.bool false)))⟩])) <|
      .ret) (.nop))) <|
  .ops ([
  ⟨some 25, none, none, .objs [], .bin .add false (.v 13) (.c (.sc (.int .i64 1)))⟩] ++ mkL [0, 1, 12, 25] ([
  ⟨some 13, none, none, .objs [], .mv (.v 25)⟩]))
noncomputable def il22l0 : C := il22l0b
theorem il22l0_go {P : Program} {pol : Pol} {K : Oracle} {I : Inl} {n : Nat} {f : FuncId} {R : Xit → FEnv → Heap → Prop} {e : FEnv} {h : Heap} : wc P pol K I n f il22l0 R e h = wc P pol K I n f il22l0b R e h := (fun x => x) rfl

/-- slices.Equal[isochron/api.Route,int] -/
noncomputable def il22c : C :=
  .seq (.ops ([
  ⟨some 4, none, none, .objs [], .mv (.c (.sc (.bool false)))⟩])) <|
  .seq (.seq (.ops ([
  ⟨some 6, none, none, .objs [], .mv (.v 0)⟩,
  ⟨some 7, none, none, .objs [], .lenS (.v 6)⟩,
  ⟨some 8, none, none, .objs [], .mv (.v 1)⟩,
  ⟨some 9, none, none, .objs [], .lenS (.v 8)⟩,
  ⟨some 10, none, none, .objs [], .bin .neq false (.v 7) (.v 9)⟩])) <|
  .cond (.v 10) (.seq (.ops ([
    ⟨some 4, none, none, .objs [], .mv (.c (.sc (.bool false)))⟩])) <|
    .ret) (.nop)) <|
  .seq (.seq (.ops ([
  ⟨some 11, none, none, .objs [], .mv (.v 0)⟩,
  ⟨some 12, none, none, .objs [], .lenS (.v 11)⟩,
  ⟨some 13, none, none, .objs [], .mv (.c (.sc (.int .i64 0)))⟩])) <|
  .block 0 (.loop (some [0, 1, 12, 13]) il22l0)) <|
  .seq (.ops ([
  ⟨some 4, none, none, .objs [], .mv (.c (.sc (.bool true)))⟩])) <|
  .ret

theorem il22_eq : cFn Try.prog pol 22 = some ⟨26, il22c, [(4, none)]⟩ := by kernel_rfl

noncomputable def il23l0b : C :=
  .seq (.seq (.ops ([
  ⟨some 6, none, none, .objs [], .mv (.v 5)⟩,
  ⟨some 7, none, none, .objs [], .mv (.v 0)⟩,
  ⟨some 8, none, none, .objs [], .lenS (.v 7)⟩,
  ⟨some 9, none, none, .objs [], .bin .lss false (.v 6) (.v 8)⟩,
  ⟨some 10, none, none, .objs [], .mv (.v 9)⟩,
  ⟨some 11, some (10, true), none, .objs [], .mv (.v 5)⟩,
  ⟨some 12, some (10, true), none, .objs [], .bin .lss false (.v 11) (.c (.sc (.int .i64 12)))⟩,
  ⟨some 13, none, none, .objs [], .pk (.v 10) (.v 12) (.c (.sc (.bool false)))⟩])) <|
  .cond (.v 13) (.nop) (.exit 0)) <|
  .seq (.block 1 (.seq (.ops ([
    ⟨some 16, none, none, .objs [], .mv (.v 4)⟩,
    ⟨some 17, none, none, .objs [], .bin .add false (.v 16) (.c (.sc (.int .i64 1)))⟩,
    ⟨some 18, none, none, .objs [], .mv (.v 0)⟩,
    ⟨some 19, none, none, .objs [], .mv (.v 5)⟩,
    ⟨some 20, none, none, .objs [], .iaS 2 (.v 18) (.v 19)⟩,
    ⟨some 21, none, none, .objs [], .iaA 2 1 (.v 20) (.c (.sc (.int .i64 0)))⟩] ++ mkL [0, 3, 5, 17, 21] ([
    ⟨some 22, none, none, .objs [], .ld false 1 (.v 21)⟩,
    ⟨some 23, none, none, .objs [], .bin .rem false (.v 22) (.c (.sc (.int .u16 300)))⟩,
    ⟨some 24, none, none, .objs [], .cv .i64 (.v 23)⟩,
    ⟨some 25, none, none, .objs [], .bin .add false (.v 17) (.v 24)⟩,
    ⟨some 4, none, none, .objs [], .mv (.v 25)⟩]))) <|
    .ops ([
    ⟨some 26, none, none, .objs [], .mv (.v 3)⟩,
    ⟨some 27, none, none, .objs [], .mv (.v 4)⟩,
    ⟨some 28, none, none, .objs [], .mv (.v 0)⟩,
    ⟨some 29, none, none, .objs [], .mv (.v 5)⟩,
    ⟨some 30, none, none, .objs [], .iaS 2 (.v 28) (.v 29)⟩,
    ⟨some 31, none, none, .objs [], .iaA 2 1 (.v 30) (.c (.sc (.int .i64 1)))⟩,
    ⟨some 32, none, none, .objs [], .ld false 1 (.v 31)⟩,
    ⟨some 33, none, none, .objs [], .cv .i64 (.v 32)⟩,
    ⟨some 34, none, none, .objs [], .bd [(.sc (.int .i64 0)), (.sc (.int .i64 0))] [(0, 1, (.v 27)), (1, 1, (.v 33))]⟩] ++ mkL [0, 4, 5, 26, 34] ([
    ⟨some 35, none, none, .objs [], .bs false 2 (.agg [(.sc (.int .i64 0)), (.sc (.int .i64 0))]) 1 [(0, (.v 34))]⟩,
    ⟨some 36, none, none, .objs [], .app 2 16 (.v 26) (.v 35)⟩,
    ⟨some 3, none, none, .objs [], .mv (.v 36)⟩])))) <|
  .ops ([
  ⟨some 14, none, none, .objs [], .mv (.v 5)⟩,
  ⟨some 15, none, none, .objs [], .bin .add false (.v 14) (.c (.sc (.int .i64 1)))⟩,
  ⟨some 5, none, none, .objs [], .mv (.v 15)⟩])
noncomputable def il23l0 : C := il23l0b
theorem il23l0_go {P : Program} {pol : Pol} {K : Oracle} {I : Inl} {n : Nat} {f : FuncId} {R : Xit → FEnv → Heap → Prop} {e : FEnv} {h : Heap} : wc P pol K I n f il23l0 R e h = wc P pol K I n f il23l0b R e h := (fun x => x) rfl

/-- (isochron/isochronref39.Draft).List -/
noncomputable def il23c : C :=
  .seq (.ops ([
  ⟨some 2, none, none, .objs [], .mv (.c (.sc (.slice none 0 0)))⟩])) <|
  .seq (.ops ([
  ⟨some 3, none, none, .objs [], .mv (.c (.sc (.slice none 0 0)))⟩])) <|
  .seq (.ops ([
  ⟨some 4, none, none, .objs [], .mv (.c (.sc (.int .i64 0)))⟩])) <|
  .seq (.seq (.ops ([
  ⟨some 5, none, none, .objs [], .mv (.c (.sc (.int .i64 0)))⟩])) <|
  .block 0 (.loop (some [0, 3, 4, 5]) il23l0)) <|
  .seq (.ops ([
  ⟨some 37, none, none, .objs [], .mv (.v 3)⟩,
  ⟨some 2, none, none, .objs [], .mv (.v 37)⟩])) <|
  .ret

theorem il23_eq : cFn Try.prog pol 23 = some ⟨38, il23c, [(2, none)]⟩ := by kernel_rfl

/-- isochron/seq.Next -/
noncomputable def il24c : C :=
  .seq (.ops ([
  ⟨some 3, none, none, .objs [], .bx false (.v 1)⟩,
  ⟨some 4, none, none, .objs [], .mv (.c (.sc (.slice none 0 0)))⟩,
  ⟨some 5, none, none, .objs [], .mv (.c (.sc (.int .i64 0)))⟩,
  ⟨some 6, none, none, .objs [], .mv (.c (.sc (.int .i64 0)))⟩])) <|
  .seq (.seq (.ops ([
  ⟨some 12, none, none, .objs [], .mv (.v 0)⟩,
  ⟨some 13, none, none, .objs [], .call (.c (.fn (.func 25) [] [])) [(.v 12)]⟩,
  ⟨some 7, none, none, .objs [], .mv (.v 13)⟩])) <|
  .seq (.ops ([
  ⟨some 14, none, none, .objs [], .mv (.v 7)⟩,
  ⟨some 15, none, none, .objs [], .bin .neq false (.v 14) (.c (.sc (.int .i64 0)))⟩])) <|
  .cond (.v 15) (.seq (.ops ([
    ⟨some 16, none, none, .objs [], .mv (.v 7)⟩,
    ⟨some 4, none, none, .objs [], .mv (.c (.sc (.slice none 0 0)))⟩,
    ⟨some 5, none, none, .objs [], .mv (.c (.sc (.int .i64 0)))⟩,
    ⟨some 6, none, none, .objs [], .mv (.v 16)⟩])) <|
    .ret) (.nop)) <|
  .seq (.seq (.ops ([
  ⟨some 17, none, none, .objs [], .ld false 1 (.v 3)⟩] ++ mkL [0, 3, 17] ([
  ⟨some 18, none, none, .objs [], .call (.c (.fn (.func 43) [] [])) [(.v 17)]⟩,
  ⟨some 19, none, none, .objs [], .nt (.v 18)⟩]))) <|
  .cond (.v 19) (.seq (.ops ([
    ⟨some 4, none, none, .objs [], .mv (.c (.sc (.slice none 0 0)))⟩,
    ⟨some 5, none, none, .objs [], .mv (.c (.sc (.int .i64 0)))⟩,
    ⟨some 6, none, none, .objs [], .mv (.c (.sc (.int .i64 2)))⟩])) <|
    .ret) (.nop)) <|
  .seq (.ops ([
  ⟨some 20, none, none, .objs [], .mv (.v 0)⟩,
  ⟨some 21, none, none, .objs [], .fn 46 [] [(.v 3)]⟩,
  ⟨some 22, none, none, .objs [], .call (.c (.fn (.func 45) [] [])) [(.v 20), (.v 21)]⟩,
  ⟨some 8, none, none, .objs [], .mv (.v 22)⟩])) <|
  .seq (.opsD [] ([
  ⟨some 23, none, none, .objs [], .mv (.v 0)⟩,
  ⟨some 24, none, none, .objs [], .mv (.v 8)⟩,
  ⟨some 25, none, none, .objs [], .sl 2 (.v 23) (some (.v 24)) none none⟩,
  ⟨some 9, none, none, .objs [], .mv (.c (.sc (.int .i64 0)))⟩,
  ⟨some 10, none, none, .objs [], .mv (.v 25)⟩])) <| mkC [0, 3, 8, 9, 10] <|
  .seq (.seq (.opsD [] ([
  ⟨some 26, none, none, .objs [], .mv (.v 8)⟩,
  ⟨some 27, none, none, .objs [], .mv (.v 0)⟩,
  ⟨some 28, none, none, .objs [(.v 27)], .lenS (.v 27)⟩,
  ⟨some 29, none, none, .objs [], .bin .lss false (.v 26) (.v 28)⟩,
  ⟨some 30, none, none, .objs [], .mv (.v 29)⟩,
  ⟨some 31, some (30, true), none, .objs [], .mv (.v 0)⟩,
  ⟨some 32, some (30, true), none, .objs [], .mv (.v 8)⟩,
  ⟨some 33, some (30, true), none, .objs [], .iaS 2 (.v 31) (.v 32)⟩,
  ⟨some 34, some (30, true), none, .objs [], .fa 0 (.v 33)⟩,
  ⟨some 35, some (30, true), none, .objs [(.v 34)], .ld false 1 (.v 34)⟩,
  ⟨some 36, some (30, true), none, .objs [(.v 3)], .ld false 1 (.v 3)⟩,
  ⟨some 37, some (30, true), none, .objs [], .bin .eql false (.v 35) (.v 36)⟩,
  ⟨some 38, none, none, .objs [], .pk (.v 30) (.v 37) (.c (.sc (.bool false)))⟩])) <|
  .cond (.v 38) (.opsD [] ([
    ⟨some 39, none, none, .objs [], .mv (.v 0)⟩] ++ mkL [0, 3, 8, 39] ([
    ⟨some 40, none, none, .objs [], .mv (.v 8)⟩,
    ⟨some 41, none, none, .objs [], .iaS 2 (.v 39) (.v 40)⟩,
    ⟨some 42, none, none, .objs [], .fa 1 (.v 41)⟩,
    ⟨some 43, none, none, .objs [(.v 42)], .ld false 1 (.v 42)⟩,
    ⟨some 44, none, none, .objs [], .mv (.v 0)⟩,
    ⟨some 45, none, none, .objs [], .mv (.v 8)⟩,
    ⟨some 46, none, none, .objs [], .bin .add false (.v 45) (.c (.sc (.int .i64 1)))⟩,
    ⟨some 47, none, none, .objs [], .sl 2 (.v 44) (some (.v 46)) none none⟩,
    ⟨some 9, none, none, .objs [], .mv (.v 43)⟩,
    ⟨some 10, none, none, .objs [], .mv (.v 47)⟩]))) (.seq (.ops ([
    ⟨some 48, none, none, .objs [], .mv (.v 0)⟩] ++ mkL [0, 3, 8, 9, 10, 48] ([
    ⟨some 49, none, none, .objs [], .lenS (.v 48)⟩,
    ⟨some 50, none, none, .objs [], .bin .eql false (.v 49) (.c (.sc (.int .i64 12)))⟩]))) <|
    .cond (.v 50) (.seq (.ops ([
      ⟨some 4, none, none, .objs [], .mv (.c (.sc (.slice none 0 0)))⟩,
      ⟨some 5, none, none, .objs [], .mv (.c (.sc (.int .i64 0)))⟩,
      ⟨some 6, none, none, .objs [], .mv (.c (.sc (.int .i64 7)))⟩])) <|
      .ret) (.nop))) <|
  .seq (.opsD [(4, 7)] ([
  ⟨some 51, none, none, .objs [], .mv (.v 0)⟩,
  ⟨some 52, none, none, .objs [], .mv (.v 8)⟩,
  ⟨some 53, none, none, .objs [], .mv (.v 8)⟩,
  ⟨some 54, none, none, .objs [], .sl 2 (.v 51) none (some (.v 52)) (some (.v 53))⟩] ++ mkL [3, 9, 10, 54] ([
  ⟨some 55, none, none, .objs [(.v 3)], .ld false 1 (.v 3)⟩,
  ⟨some 56, none, none, .objs [], .mv (.v 9)⟩,
  ⟨some 57, none, none, .objs [], .bin .add false (.v 56) (.c (.sc (.int .i64 1)))⟩,
  ⟨some 58, none, none, .cal (.c (.fn (.func 42) [] [])) [(.v 57)], .call (.c (.fn (.func 42) [] [])) [(.v 57)]⟩,
  ⟨some 59, none, none, .objs [], .bd [(.sc (.int .i64 0)), (.sc (.int .i64 0))] [(0, 1, (.v 55)), (1, 1, (.v 58))]⟩,
  ⟨some 60, none, none, .objs [], .bs false 2 (.agg [(.sc (.int .i64 0)), (.sc (.int .i64 0))]) 1 [(0, (.v 59))]⟩,
  ⟨some 61, none, none, .objs [(.v 54), (.v 60)], .app 2 16 (.v 54) (.v 60)⟩,
  ⟨some 11, none, none, .objs [], .mv (.v 61)⟩]))) <|
  .seq (.ops ([
  ⟨some 62, none, none, .objs [], .mv (.v 11)⟩,
  ⟨some 63, none, none, .objs [], .mv (.v 10)⟩,
  ⟨some 64, none, none, .objs [], .app 2 16 (.v 62) (.v 63)⟩,
  ⟨some 65, none, none, .objs [], .mv (.v 9)⟩,
  ⟨some 4, none, none, .objs [], .mv (.v 64)⟩,
  ⟨some 5, none, none, .objs [], .mv (.v 65)⟩] ++ mkL [4, 5] ([
  ⟨some 6, none, none, .objs [], .mv (.c (.sc (.int .i64 0)))⟩]))) <|
  .ret

theorem il24_eq : cFn Try.prog pol 24 = some ⟨66, il24c, [(4, none), (5, none), (6, none)]⟩ := by kernel_rfl

noncomputable def il25l0b : C :=
  .seq (.ops ([
  ⟨some 12, none, none, .objs [], .bin .lss false (.v 11) (.v 10)⟩])) <|
  .seq (.cond (.v 12) (.nop) (.exit 0)) <|
  .seq (.block 1 (.seq (.ops ([
    ⟨some 13, none, none, .objs [], .iaS 2 (.v 9) (.v 11)⟩,
    ⟨some 14, none, none, .objs [], .ld true 2 (.v 13)⟩,
    ⟨some 5, none, none, .objs [], .nw 2 (.agg [(.sc (.int .i64 0)), (.sc (.int .i64 0))])⟩,
    ⟨none, none, none, .objs [], .st 2 (.v 5) (.v 14)⟩])) <|
    .seq (.seq (.ops ([
    ⟨some 15, none, none, .objs [], .fa 0 (.v 5)⟩,
    ⟨some 16, none, none, .objs [], .ld false 1 (.v 15)⟩,
    ⟨some 17, none, none, .objs [], .call (.c (.fn (.func 43) [] [])) [(.v 16)]⟩,
    ⟨some 18, none, none, .objs [], .nt (.v 17)⟩,
    ⟨some 19, none, none, .objs [], .mv (.v 18)⟩,
    ⟨some 20, some (19, false), none, .objs [], .fa 0 (.v 5)⟩,
    ⟨some 21, some (19, false), none, .objs [], .ld false 1 (.v 20)⟩,
    ⟨some 22, some (19, false), none, .objs [], .mv (.v 3)⟩,
    ⟨some 23, some (19, false), none, .objs [], .bin .leq false (.v 21) (.v 22)⟩] ++ mkL [5, 9, 10, 11, 19, 23] ([
    ⟨some 24, none, none, .objs [], .pk (.v 19) (.c (.sc (.bool true))) (.v 23)⟩,
    ⟨some 25, none, none, .objs [], .mv (.v 24)⟩,
    ⟨some 26, some (25, false), none, .objs [], .fa 1 (.v 5)⟩,
    ⟨some 27, some (25, false), none, .objs [], .ld false 1 (.v 26)⟩,
    ⟨some 28, some (25, false), none, .objs [], .call (.c (.fn (.func 41) [] [])) [(.v 27)]⟩,
    ⟨some 29, some (25, false), none, .objs [], .nt (.v 28)⟩,
    ⟨some 30, none, none, .objs [], .pk (.v 25) (.c (.sc (.bool true))) (.v 29)⟩]))) <|
    .cond (.v 30) (.seq (.ops ([
      ⟨some 2, none, none, .objs [], .mv (.c (.sc (.int .i64 490)))⟩])) <|
      .ret) (.nop)) <|
    .ops ([
    ⟨some 31, none, none, .objs [], .fa 0 (.v 5)⟩,
    ⟨some 32, none, none, .objs [], .ld false 1 (.v 31)⟩,
    ⟨some 3, none, none, .objs [], .mv (.v 32)⟩]))) <|
  .ops ([
  ⟨some 33, none, none, .objs [], .bin .add false (.v 11) (.c (.sc (.int .i64 1)))⟩,
  ⟨some 11, none, none, .objs [], .mv (.v 33)⟩])
noncomputable def il25l0 : C := il25l0b
theorem il25l0_go {P : Program} {pol : Pol} {K : Oracle} {I : Inl} {n : Nat} {f : FuncId} {R : Xit → FEnv → Heap → Prop} {e : FEnv} {h : Heap} : wc P pol K I n f il25l0 R e h = wc P pol K I n f il25l0b R e h := (fun x => x) rfl

/-- isochron/seq.Check -/
noncomputable def il25c : C :=
  .seq (.ops ([
  ⟨some 2, none, none, .objs [], .mv (.c (.sc (.int .i64 0)))⟩])) <|
  .seq (.seq (.ops ([
  ⟨some 6, none, none, .objs [], .mv (.v 0)⟩,
  ⟨some 7, none, none, .objs [], .lenS (.v 6)⟩,
  ⟨some 8, none, none, .objs [], .bin .gtr false (.v 7) (.c (.sc (.int .i64 12)))⟩])) <|
  .cond (.v 8) (.seq (.ops ([
    ⟨some 2, none, none, .objs [], .mv (.c (.sc (.int .i64 490)))⟩])) <|
    .ret) (.nop)) <|
  .seq (.ops ([
  ⟨some 3, none, none, .objs [], .mv (.c (.sc (.int .i64 0)))⟩])) <|
  .seq (.seq (.ops ([
  ⟨some 9, none, none, .objs [], .mv (.v 0)⟩,
  ⟨some 10, none, none, .objs [], .lenS (.v 9)⟩,
  ⟨some 11, none, none, .objs [], .mv (.c (.sc (.int .i64 0)))⟩])) <|
  .block 0 (.loop (some [3, 9, 10, 11]) il25l0)) <|
  .seq (.ops ([
  ⟨some 2, none, none, .objs [], .mv (.c (.sc (.int .i64 0)))⟩])) <|
  .ret

theorem il25_eq : cFn Try.prog pol 25 = some ⟨34, il25c, [(2, none)]⟩ := by kernel_rfl

/-- slices.Clone[[]isochron/api.Counter,isochron/api.Counter] -/
noncomputable def il26c : C :=
  .seq (.ops ([
  ⟨some 2, none, none, .objs [], .mv (.c (.sc (.slice none 0 0)))⟩])) <|
  .seq (.seq (.ops ([
  ⟨some 3, none, none, .objs [], .mv (.v 0)⟩,
  ⟨some 4, none, none, .objs [], .raw (opOf Try.prog 26 1 1)⟩])) <|
  .cond (.v 4) (.seq (.ops ([
    ⟨some 2, none, none, .objs [], .mv (.c (.sc (.slice none 0 0)))⟩])) <|
    .ret) (.nop)) <|
  .seq (.ops ([
  ⟨some 5, none, none, .objs [], .bs false 2 (.agg [(.sc (.int .i64 0)), (.sc (.int .i64 0))]) 0 []⟩,
  ⟨some 6, none, none, .objs [], .mv (.v 0)⟩,
  ⟨some 7, none, none, .objs [], .app 2 16 (.v 5) (.v 6)⟩,
  ⟨some 2, none, none, .objs [], .mv (.v 7)⟩])) <|
  .ret

theorem il26_eq : cFn Try.prog pol 26 = some ⟨8, il26c, [(2, none)]⟩ := by kernel_rfl
theorem raw26_1_1 {e : FEnv} {h : Heap} : iStep Try.prog pol 26 e h (.raw (opOf Try.prog 26 1 1)) = vOf h (binE Try.prog false 46 (.tmp 3) (.const (.slice none 0 0)) (Src.get e (.v 3)) (Src.get e (.c (.sc (.slice none 0 0))))) := raw_eql (x := (.tmp 3)) (y := (.const (.slice none 0 0))) (s := 46) (by kernel_rfl)

noncomputable def il27l0b : C :=
  .seq (.seq (.ops ([
  ⟨some 4, none, none, .objs [], .mv (.v 3)⟩,
  ⟨some 5, none, none, .objs [], .mv (.v 0)⟩,
  ⟨some 6, none, none, .objs [], .lenS (.v 5)⟩,
  ⟨some 7, none, none, .objs [], .bin .lss false (.v 4) (.v 6)⟩])) <|
  .cond (.v 7) (.nop) (.exit 0)) <|
  .seq (.block 1 (.seq (.opsD [] ([
    ⟨some 10, none, none, .objs [], .mv (.v 0)⟩,
    ⟨some 11, none, none, .objs [], .mv (.v 3)⟩,
    ⟨some 12, none, none, .objs [], .iaS 2 (.v 10) (.v 11)⟩,
    ⟨some 13, none, none, .objs [], .fa 0 (.v 12)⟩,
    ⟨some 14, none, none, .objs [(.v 13)], .ld false 1 (.v 13)⟩,
    ⟨some 15, none, none, .objs [], .bin .lss false (.v 14) (.c (.sc (.int .i64 1)))⟩,
    ⟨some 16, none, none, .objs [], .mv (.v 15)⟩,
    ⟨some 17, some (16, false), none, .objs [], .mv (.v 0)⟩,
    ⟨some 18, some (16, false), none, .objs [], .mv (.v 3)⟩,
    ⟨some 19, some (16, false), none, .objs [], .iaS 2 (.v 17) (.v 18)⟩] ++ mkL [0, 3, 16, 19] ([
    ⟨some 20, some (16, false), none, .objs [], .fa 0 (.v 19)⟩,
    ⟨some 21, some (16, false), none, .objs [(.v 20)], .ld false 1 (.v 20)⟩,
    ⟨some 22, some (16, false), none, .objs [], .bin .gtr false (.v 21) (.c (.sc (.int .i64 4095)))⟩,
    ⟨some 23, none, none, .objs [], .pk (.v 16) (.c (.sc (.bool true))) (.v 22)⟩,
    ⟨some 24, none, none, .objs [], .mv (.v 23)⟩,
    ⟨some 25, some (24, false), none, .objs [], .mv (.v 0)⟩,
    ⟨some 26, some (24, false), none, .objs [], .mv (.v 3)⟩,
    ⟨some 27, some (24, false), none, .objs [], .iaS 2 (.v 25) (.v 26)⟩,
    ⟨some 28, some (24, false), none, .objs [], .fa 1 (.v 27)⟩,
    ⟨some 29, some (24, false), none, .objs [(.v 28)], .ld false 1 (.v 28)⟩,
    ⟨some 30, some (24, false), none, .cal (.c (.fn (.func 20) [] [])) [(.v 29)], .call (.c (.fn (.func 20) [] [])) [(.v 29)]⟩,
    ⟨some 31, some (24, false), none, .objs [], .nt (.v 30)⟩,
    ⟨some 32, none, none, .objs [], .pk (.v 24) (.c (.sc (.bool true))) (.v 31)⟩,
    ⟨some 33, none, none, .objs [], .mv (.v 32)⟩] ++ mkL [0, 3, 33] ([
    ⟨some 34, some (33, false), none, .objs [], .mv (.v 3)⟩,
    ⟨some 35, some (33, false), none, .objs [], .bin .gtr false (.v 34) (.c (.sc (.int .i64 0)))⟩,
    ⟨some 36, some (33, false), none, .objs [], .mv (.v 35)⟩,
    ⟨some 37, some (36, true), none, .objs [], .mv (.v 0)⟩,
    ⟨some 38, some (36, true), none, .objs [], .mv (.v 3)⟩,
    ⟨some 39, some (36, true), none, .objs [], .bin .sub false (.v 38) (.c (.sc (.int .i64 1)))⟩,
    ⟨some 40, some (36, true), none, .objs [], .iaS 2 (.v 37) (.v 39)⟩,
    ⟨some 41, some (36, true), none, .objs [], .fa 0 (.v 40)⟩,
    ⟨some 42, some (36, true), none, .objs [(.v 41)], .ld false 1 (.v 41)⟩,
    ⟨some 43, some (36, true), none, .objs [], .mv (.v 0)⟩,
    ⟨some 44, some (36, true), none, .objs [], .mv (.v 3)⟩,
    ⟨some 45, some (36, true), none, .objs [], .iaS 2 (.v 43) (.v 44)⟩,
    ⟨some 46, some (36, true), none, .objs [], .fa 0 (.v 45)⟩,
    ⟨some 47, some (36, true), none, .objs [(.v 46)], .ld false 1 (.v 46)⟩] ++ mkL [0, 3, 33, 36, 42, 47] ([
    ⟨some 48, some (36, true), none, .objs [], .bin .geq false (.v 42) (.v 47)⟩,
    ⟨some 49, some (33, false), none, .objs [], .pk (.v 36) (.v 48) (.c (.sc (.bool false)))⟩,
    ⟨some 50, none, none, .objs [], .pk (.v 33) (.c (.sc (.bool true))) (.v 49)⟩]))))) <|
    .cond (.v 50) (.seq (.ops ([
      ⟨some 2, none, none, .objs [], .mv (.c (.sc (.bool false)))⟩])) <|
      .ret) (.nop))) <|
  .ops ([
  ⟨some 8, none, none, .objs [], .mv (.v 3)⟩,
  ⟨some 9, none, none, .objs [], .bin .add false (.v 8) (.c (.sc (.int .i64 1)))⟩,
  ⟨some 3, none, none, .objs [], .mv (.v 9)⟩])
noncomputable def il27l0 : C := il27l0b
theorem il27l0_go {P : Program} {pol : Pol} {K : Oracle} {I : Inl} {n : Nat} {f : FuncId} {R : Xit → FEnv → Heap → Prop} {e : FEnv} {h : Heap} : wc P pol K I n f il27l0 R e h = wc P pol K I n f il27l0b R e h := (fun x => x) rfl

/-- isochron/isochronref39.Right -/
noncomputable def il27c : C :=
  .seq (.ops ([
  ⟨some 2, none, none, .objs [], .mv (.c (.sc (.bool false)))⟩])) <|
  .seq (.seq (.ops ([
  ⟨some 3, none, none, .objs [], .mv (.c (.sc (.int .i64 0)))⟩])) <|
  .block 0 (.loop (some [0, 3]) il27l0)) <|
  .seq (.ops ([
  ⟨some 51, none, none, .objs [], .mv (.v 0)⟩,
  ⟨some 52, none, none, .objs [], .lenS (.v 51)⟩,
  ⟨some 53, none, none, .objs [], .bin .leq false (.v 52) (.c (.sc (.int .i64 12)))⟩,
  ⟨some 2, none, none, .objs [], .mv (.v 53)⟩])) <|
  .ret

theorem il27_eq : cFn Try.prog pol 27 = some ⟨54, il27c, [(2, none)]⟩ := by kernel_rfl

noncomputable def il28l0b : C :=
  .seq (.seq (.ops ([
  ⟨some 20, none, none, .objs [], .mv (.v 10)⟩,
  ⟨some 21, none, none, .objs [], .mv (.v 0)⟩,
  ⟨some 22, none, none, .objs [], .lenS (.v 21)⟩,
  ⟨some 23, none, none, .objs [], .bin .lss false (.v 20) (.v 22)⟩])) <|
  .cond (.v 23) (.nop) (.exit 0)) <|
  .seq (.block 1 (.seq (.seq (.ops ([
    ⟨some 26, none, none, .objs [], .mv (.v 0)⟩,
    ⟨some 27, none, none, .objs [], .mv (.v 10)⟩,
    ⟨some 28, none, none, .objs [], .iaS 2 (.v 26) (.v 27)⟩,
    ⟨some 29, none, none, .objs [], .fa 0 (.v 28)⟩,
    ⟨some 30, none, none, .objs [], .ld false 1 (.v 29)⟩,
    ⟨some 31, none, none, .objs [], .mv (.v 1)⟩,
    ⟨some 32, none, none, .objs [], .bin .eql false (.v 30) (.v 31)⟩])) <|
    .cond (.v 32) (.seq (.ops ([
      ⟨some 33, none, none, .objs [], .mv (.v 0)⟩,
      ⟨some 34, none, none, .objs [], .mv (.v 10)⟩,
      ⟨some 35, none, none, .objs [], .iaS 2 (.v 33) (.v 34)⟩] ++ mkL [0, 1, 7, 10, 35] ([
      ⟨some 36, none, none, .objs [], .fa 1 (.v 35)⟩,
      ⟨some 37, none, none, .objs [], .ld false 1 (.v 36)⟩,
      ⟨some 8, none, none, .objs [], .mv (.v 37)⟩]))) <|
      .seq (.ops ([
      ⟨some 38, none, none, .objs [], .mv (.v 7)⟩,
      ⟨some 39, none, none, .objs [], .mv (.v 1)⟩,
      ⟨some 40, none, none, .objs [], .mv (.v 8)⟩,
      ⟨some 41, none, none, .objs [], .call (.c (.fn (.func 19) [] [])) [(.v 40), (.c (.sc (.int .i64 1)))]⟩,
      ⟨some 42, none, none, .objs [], .bd [(.sc (.int .i64 0)), (.sc (.int .i64 0))] [(0, 1, (.v 39)), (1, 1, (.v 41))]⟩,
      ⟨some 43, none, none, .objs [], .bs false 2 (.agg [(.sc (.int .i64 0)), (.sc (.int .i64 0))]) 1 [(0, (.v 42))]⟩,
      ⟨some 44, none, none, .objs [], .app 2 16 (.v 38) (.v 43)⟩,
      ⟨some 7, none, none, .objs [], .gmv 2 (.v 44)⟩])) <|
      .seq (.ops ([
      ⟨some 9, none, none, .objs [], .mv (.c (.sc (.bool true)))⟩])) <|
      .exit 1) (.nop)) <|
    .seq (.seq (.ops ([
    ⟨some 45, none, none, .objs [], .mv (.v 9)⟩,
    ⟨some 46, none, none, .objs [], .nt (.v 45)⟩] ++ mkL [0, 1, 7, 8, 9, 10, 46] ([
    ⟨some 47, none, none, .objs [], .mv (.v 46)⟩,
    ⟨some 48, some (47, true), none, .objs [], .mv (.v 0)⟩,
    ⟨some 49, some (47, true), none, .objs [], .mv (.v 10)⟩,
    ⟨some 50, some (47, true), none, .objs [], .iaS 2 (.v 48) (.v 49)⟩,
    ⟨some 51, some (47, true), none, .objs [], .fa 0 (.v 50)⟩,
    ⟨some 52, some (47, true), none, .objs [], .ld false 1 (.v 51)⟩,
    ⟨some 53, some (47, true), none, .objs [], .mv (.v 1)⟩,
    ⟨some 54, some (47, true), none, .objs [], .bin .gtr false (.v 52) (.v 53)⟩,
    ⟨some 55, none, none, .objs [], .pk (.v 47) (.v 54) (.c (.sc (.bool false)))⟩]))) <|
    .cond (.v 55) (.seq (.ops ([
      ⟨some 56, none, none, .objs [], .mv (.v 7)⟩,
      ⟨some 57, none, none, .objs [], .mv (.v 1)⟩,
      ⟨some 58, none, none, .objs [], .bd [(.sc (.int .i64 0)), (.sc (.int .i64 0))] [(0, 1, (.v 57)), (1, 1, (.c (.sc (.int .i64 1))))]⟩,
      ⟨some 59, none, none, .objs [], .bs false 2 (.agg [(.sc (.int .i64 0)), (.sc (.int .i64 0))]) 1 [(0, (.v 58))]⟩,
      ⟨some 60, none, none, .objs [], .app 2 16 (.v 56) (.v 59)⟩] ++ mkL [0, 1, 8, 10, 60] ([
      ⟨some 7, none, none, .objs [], .gmv 2 (.v 60)⟩]))) <|
      .ops ([
      ⟨some 9, none, none, .objs [], .mv (.c (.sc (.bool true)))⟩])) (.nop)) <|
    .ops ([
    ⟨some 61, none, none, .objs [], .mv (.v 7)⟩,
    ⟨some 62, none, none, .objs [], .mv (.v 0)⟩,
    ⟨some 63, none, none, .objs [], .mv (.v 10)⟩,
    ⟨some 64, none, none, .objs [], .iaS 2 (.v 62) (.v 63)⟩,
    ⟨some 65, none, none, .objs [], .ld true 2 (.v 64)⟩] ++ mkL [0, 1, 8, 9, 10, 61, 65] ([
    ⟨some 66, none, none, .objs [], .bs false 2 (.agg [(.sc (.int .i64 0)), (.sc (.int .i64 0))]) 1 [(0, (.v 65))]⟩,
    ⟨some 67, none, none, .objs [], .app 2 16 (.v 61) (.v 66)⟩,
    ⟨some 7, none, none, .objs [], .gmv 2 (.v 67)⟩])))) <|
  .ops ([
  ⟨some 24, none, none, .objs [], .mv (.v 10)⟩,
  ⟨some 25, none, none, .objs [], .bin .add false (.v 24) (.c (.sc (.int .i64 1)))⟩,
  ⟨some 10, none, none, .objs [], .mv (.v 25)⟩])
noncomputable def il28l0 : C := il28l0b
theorem il28l0_go {P : Program} {pol : Pol} {K : Oracle} {I : Inl} {n : Nat} {f : FuncId} {R : Xit → FEnv → Heap → Prop} {e : FEnv} {h : Heap} : wc P pol K I n f il28l0 R e h = wc P pol K I n f il28l0b R e h := (fun x => x) rfl

/-- isochron/isochronref39.Next -/
noncomputable def il28c : C :=
  .seq (.ops ([
  ⟨some 4, none, none, .objs [], .mv (.c (.sc (.slice none 0 0)))⟩,
  ⟨some 5, none, none, .objs [], .mv (.c (.sc (.int .i64 0)))⟩,
  ⟨some 6, none, none, .objs [], .mv (.c (.sc (.int .i64 0)))⟩])) <|
  .seq (.seq (.ops ([
  ⟨some 11, none, none, .objs [], .mv (.v 0)⟩,
  ⟨some 12, none, none, .objs [], .call (.c (.fn (.func 27) [] [])) [(.v 11)]⟩,
  ⟨some 13, none, none, .objs [], .nt (.v 12)⟩])) <|
  .cond (.v 13) (.seq (.ops ([
    ⟨some 4, none, none, .objs [], .mv (.c (.sc (.slice none 0 0)))⟩,
    ⟨some 5, none, none, .objs [], .mv (.c (.sc (.int .i64 0)))⟩,
    ⟨some 6, none, none, .objs [], .mv (.c (.sc (.int .i64 490)))⟩])) <|
    .ret) (.nop)) <|
  .seq (.seq (.ops ([
  ⟨some 14, none, none, .objs [], .mv (.v 1)⟩,
  ⟨some 15, none, none, .objs [], .bin .lss false (.v 14) (.c (.sc (.int .i64 1)))⟩,
  ⟨some 16, none, none, .objs [], .mv (.v 15)⟩,
  ⟨some 17, some (16, false), none, .objs [], .mv (.v 1)⟩,
  ⟨some 18, some (16, false), none, .objs [], .bin .gtr false (.v 17) (.c (.sc (.int .i64 4095)))⟩] ++ mkL [0, 1, 16, 18] ([
  ⟨some 19, none, none, .objs [], .pk (.v 16) (.c (.sc (.bool true))) (.v 18)⟩]))) <|
  .cond (.v 19) (.seq (.ops ([
    ⟨some 4, none, none, .objs [], .mv (.c (.sc (.slice none 0 0)))⟩,
    ⟨some 5, none, none, .objs [], .mv (.c (.sc (.int .i64 0)))⟩,
    ⟨some 6, none, none, .objs [], .mv (.c (.sc (.int .i64 2)))⟩])) <|
    .ret) (.nop)) <|
  .seq (.ops ([
  ⟨some 7, none, none, .objs [], .gmv 2 (.c (.sc (.slice none 0 0)))⟩])) <|
  .seq (.ops ([
  ⟨some 8, none, none, .objs [], .mv (.c (.sc (.int .i64 0)))⟩,
  ⟨some 9, none, none, .objs [], .mv (.c (.sc (.bool false)))⟩])) <|
  .seq (.seq (.ops ([
  ⟨some 10, none, none, .objs [], .mv (.c (.sc (.int .i64 0)))⟩])) <|
  .block 0 (.loop (some [0, 1, 7, 8, 9, 10]) il28l0)) <|
  .seq (.seq (.ops ([
  ⟨some 68, none, none, .objs [], .mv (.v 9)⟩,
  ⟨some 69, none, none, .objs [], .nt (.v 68)⟩])) <|
  .cond (.v 69) (.ops ([
    ⟨some 70, none, none, .objs [], .mv (.v 7)⟩,
    ⟨some 71, none, none, .objs [], .mv (.v 1)⟩,
    ⟨some 72, none, none, .objs [], .bd [(.sc (.int .i64 0)), (.sc (.int .i64 0))] [(0, 1, (.v 71)), (1, 1, (.c (.sc (.int .i64 1))))]⟩,
    ⟨some 73, none, none, .objs [], .bs false 2 (.agg [(.sc (.int .i64 0)), (.sc (.int .i64 0))]) 1 [(0, (.v 72))]⟩,
    ⟨some 74, none, none, .objs [], .app 2 16 (.v 70) (.v 73)⟩,
    ⟨some 7, none, none, .objs [], .gmv 2 (.v 74)⟩])) (.nop)) <|
  .seq (.seq (.ops ([
  ⟨some 75, none, none, .objs [], .mv (.v 7)⟩,
  ⟨some 76, none, none, .objs [], .lenS (.v 75)⟩,
  ⟨some 77, none, none, .objs [], .bin .gtr false (.v 76) (.c (.sc (.int .i64 12)))⟩])) <|
  .cond (.v 77) (.seq (.ops ([
    ⟨some 4, none, none, .objs [], .mv (.c (.sc (.slice none 0 0)))⟩,
    ⟨some 5, none, none, .objs [], .mv (.c (.sc (.int .i64 0)))⟩,
    ⟨some 6, none, none, .objs [], .mv (.c (.sc (.int .i64 7)))⟩])) <|
    .ret) (.nop)) <| mkC [7, 8] <|
  .seq (.ops ([
  ⟨some 78, none, none, .objs [], .mv (.v 7)⟩,
  ⟨some 79, none, none, .objs [], .mv (.v 8)⟩,
  ⟨some 4, none, none, .objs [], .mv (.v 78)⟩,
  ⟨some 5, none, none, .objs [], .mv (.v 79)⟩,
  ⟨some 6, none, none, .objs [], .mv (.c (.sc (.int .i64 0)))⟩])) <|
  .ret

theorem il28_eq : cFn Try.prog pol 28 = some ⟨80, il28c, [(4, none), (5, none), (6, none)]⟩ := by kernel_rfl

noncomputable def il29l0b : C :=
  .seq (.seq (.ops ([
  ⟨some 11, none, none, .objs [], .mv (.v 5)⟩,
  ⟨some 12, none, none, .objs [], .mv (.v 0)⟩,
  ⟨some 13, none, none, .objs [], .lenS (.v 12)⟩,
  ⟨some 14, none, none, .objs [], .bin .lss false (.v 11) (.v 13)⟩])) <|
  .cond (.v 14) (.nop) (.exit 0)) <|
  .seq (.block 1 (.seq (.opsD [] ([
    ⟨some 17, none, none, .objs [], .mv (.v 0)⟩,
    ⟨some 18, none, none, .objs [], .mv (.v 5)⟩,
    ⟨some 19, none, none, .objs [], .iaS 2 (.v 17) (.v 18)⟩,
    ⟨some 20, none, none, .objs [(.v 19)], .ld true 2 (.v 19)⟩,
    ⟨some 21, none, none, .objs [], .mv (.v 1)⟩,
    ⟨some 22, none, none, .objs [], .mv (.v 5)⟩,
    ⟨some 23, none, none, .objs [], .iaS 2 (.v 21) (.v 22)⟩,
    ⟨some 24, none, none, .objs [(.v 23)], .ld true 2 (.v 23)⟩,
    ⟨some 25, none, none, .objs [], .raw (opOf Try.prog 29 6 8)⟩])) <|
    .cond (.v 25) (.seq (.ops ([
      ⟨some 4, none, none, .objs [], .mv (.c (.sc (.bool false)))⟩])) <|
      .ret) (.nop))) <| mkC [0, 1, 5] <|
  .ops ([
  ⟨some 15, none, none, .objs [], .mv (.v 5)⟩,
  ⟨some 16, none, none, .objs [], .bin .add false (.v 15) (.c (.sc (.int .i64 1)))⟩,
  ⟨some 5, none, none, .objs [], .mv (.v 16)⟩])
noncomputable def il29l0 : C := il29l0b
theorem il29l0_go {P : Program} {pol : Pol} {K : Oracle} {I : Inl} {n : Nat} {f : FuncId} {R : Xit → FEnv → Heap → Prop} {e : FEnv} {h : Heap} : wc P pol K I n f il29l0 R e h = wc P pol K I n f il29l0b R e h := (fun x => x) rfl

/-- isochron/isochronref39.Same -/
noncomputable def il29c : C :=
  .seq (.ops ([
  ⟨some 4, none, none, .objs [], .mv (.c (.sc (.bool false)))⟩])) <|
  .seq (.seq (.ops ([
  ⟨some 6, none, none, .objs [], .mv (.v 0)⟩,
  ⟨some 7, none, none, .objs [], .lenS (.v 6)⟩,
  ⟨some 8, none, none, .objs [], .mv (.v 1)⟩,
  ⟨some 9, none, none, .objs [], .lenS (.v 8)⟩,
  ⟨some 10, none, none, .objs [], .bin .neq false (.v 7) (.v 9)⟩])) <|
  .cond (.v 10) (.seq (.ops ([
    ⟨some 4, none, none, .objs [], .mv (.c (.sc (.bool false)))⟩])) <|
    .ret) (.nop)) <|
  .seq (.seq (.ops ([
  ⟨some 5, none, none, .objs [], .mv (.c (.sc (.int .i64 0)))⟩])) <|
  .block 0 (.loop (some [0, 1, 5]) il29l0)) <|
  .seq (.ops ([
  ⟨some 4, none, none, .objs [], .mv (.c (.sc (.bool true)))⟩])) <|
  .ret

theorem il29_eq : cFn Try.prog pol 29 = some ⟨26, il29c, [(4, none)]⟩ := by kernel_rfl
theorem raw29_6_8 {e : FEnv} {h : Heap} : iStep Try.prog pol 29 e h (.raw (opOf Try.prog 29 6 8)) = vOf h (binE Try.prog true 50 (.tmp 20) (.tmp 24) (Src.get e (.v 20)) (Src.get e (.v 24))) := raw_neq (x := (.tmp 20)) (y := (.tmp 24)) (s := 50) (by kernel_rfl)

noncomputable def il31l0b : C :=
  .seq (.seq (.ops ([
  ⟨some 31, none, none, .objs [], .mv (.v 4)⟩,
  ⟨some 32, none, none, .objs [], .bin .geq false (.v 31) (.c (.sc (.int .i64 0)))⟩])) <|
  .cond (.v 32) (.nop) (.exit 0)) <|
  .seq (.block 1 (.seq (.ops ([
    ⟨some 35, none, none, .objs [], .fa 5 (.v 3)⟩,
    ⟨some 36, none, none, .objs [], .ld false 1 (.v 35)⟩,
    ⟨some 37, none, none, .objs [], .bin .mul false (.v 36) (.c (.sc (.int .u64 2)))⟩,
    ⟨some 38, none, none, .objs [], .fa 5 (.v 3)⟩,
    ⟨none, none, none, .objs [], .st 1 (.v 38) (.v 37)⟩])) <|
    .seq (.ops ([
    ⟨some 39, none, none, .objs [], .mv (.v 4)⟩,
    ⟨some 40, none, none, .objs [], .bin .eql false (.v 39) (.c (.sc (.int .i64 0)))⟩,
    ⟨some 41, none, none, .objs [], .mv (.v 40)⟩,
    ⟨some 42, some (41, false), none, .objs [], .fa 5 (.v 1)⟩,
    ⟨some 43, some (41, false), none, .objs [], .ld false 1 (.v 42)⟩,
    ⟨some 44, some (41, false), none, .objs [], .mv (.v 4)⟩,
    ⟨some 45, some (41, false), none, .objs [], .call (.c (.fn (.func 49) [] [])) [(.v 43), (.v 44)]⟩] ++ mkL [1, 2, 3, 4, 41, 45] ([
    ⟨some 46, none, none, .objs [], .pk (.v 41) (.c (.sc (.bool true))) (.v 45)⟩]))) <|
    .cond (.v 46) (.ops ([
      ⟨some 47, none, none, .objs [], .fa 5 (.v 3)⟩,
      ⟨some 48, none, none, .objs [], .ld false 1 (.v 47)⟩,
      ⟨some 49, none, none, .objs [], .bin .add false (.v 48) (.c (.sc (.int .u64 1)))⟩,
      ⟨some 50, none, none, .objs [], .fa 5 (.v 3)⟩,
      ⟨none, none, none, .objs [], .st 1 (.v 50) (.v 49)⟩])) (.nop))) <|
  .ops ([
  ⟨some 33, none, none, .objs [], .mv (.v 4)⟩,
  ⟨some 34, none, none, .objs [], .bin .sub false (.v 33) (.c (.sc (.int .i64 1)))⟩,
  ⟨some 4, none, none, .objs [], .mv (.v 34)⟩])
noncomputable def il31l0 : C := il31l0b
theorem il31l0_go {P : Program} {pol : Pol} {K : Oracle} {I : Inl} {n : Nat} {f : FuncId} {R : Xit → FEnv → Heap → Prop} {e : FEnv} {h : Heap} : wc P pol K I n f il31l0 R e h = wc P pol K I n f il31l0b R e h := (fun x => x) rfl

/-- (isochron/isochronref40.Draft).Recover -/
noncomputable def il31c : C :=
  .seq (.ops ([
  ⟨some 1, none, none, .objs [], .bx false (.v 0)⟩,
  ⟨some 2, none, none, .objs [], .nw 6 (.agg [(.sc (.int .i64 0)), (.sc (.int .i64 0)), (.sc (.bool false)), (.sc (.int .i64 0)), (.sc (.int .i64 0)), (.sc (.int .u64 0))])⟩])) <|
  .seq (.ops ([
  ⟨some 5, none, none, .objs [], .fa 0 (.v 1)⟩,
  ⟨some 6, none, none, .objs [], .ld false 1 (.v 5)⟩,
  ⟨some 7, none, none, .objs [], .bin .rem false (.v 6) (.c (.sc (.int .u8 64)))⟩,
  ⟨some 8, none, none, .objs [], .cv .i64 (.v 7)⟩,
  ⟨some 9, none, none, .objs [], .bin .add false (.c (.sc (.int .i64 1))) (.v 8)⟩,
  ⟨some 10, none, none, .objs [], .fa 1 (.v 1)⟩,
  ⟨some 11, none, none, .objs [], .ld false 1 (.v 10)⟩,
  ⟨some 12, none, none, .objs [], .cv .i64 (.v 11)⟩,
  ⟨some 13, none, none, .objs [], .bin .add false (.c (.sc (.int .i64 1))) (.v 12)⟩,
  ⟨some 14, none, none, .objs [], .fa 2 (.v 1)⟩,
  ⟨some 15, none, none, .objs [], .ld false 1 (.v 14)⟩,
  ⟨some 16, none, none, .objs [], .bd [(.sc (.int .i64 0)), (.sc (.int .i64 0)), (.sc (.bool false)), (.sc (.int .i64 0)), (.sc (.int .i64 0)), (.sc (.int .u64 0))] [(0, 1, (.v 9)), (1, 1, (.v 13)), (2, 1, (.v 15))]⟩] ++ mkL [1, 2, 16] ([
  ⟨some 3, none, none, .objs [], .nw 6 (.agg [(.sc (.int .i64 0)), (.sc (.int .i64 0)), (.sc (.bool false)), (.sc (.int .i64 0)), (.sc (.int .i64 0)), (.sc (.int .u64 0))])⟩,
  ⟨none, none, none, .objs [], .st 6 (.v 3) (.v 16)⟩]))) <|
  .seq (.seq (.ops ([
  ⟨some 17, none, none, .objs [], .fa 2 (.v 1)⟩,
  ⟨some 18, none, none, .objs [], .ld false 1 (.v 17)⟩])) <|
  .cond (.v 18) (.seq (.ops ([
    ⟨some 19, none, none, .objs [], .ld true 6 (.v 3)⟩,
    ⟨none, none, none, .objs [], .st 6 (.v 2) (.v 19)⟩])) <|
    .ret) (.nop)) <|
  .seq (.ops ([
  ⟨some 20, none, none, .objs [], .fa 3 (.v 1)⟩,
  ⟨some 21, none, none, .objs [], .ld false 1 (.v 20)⟩,
  ⟨some 22, none, none, .objs [], .cv .i64 (.v 21)⟩,
  ⟨some 23, none, none, .objs [], .fa 3 (.v 3)⟩,
  ⟨none, none, none, .objs [], .st 1 (.v 23) (.v 22)⟩])) <|
  .seq (.ops ([
  ⟨some 24, none, none, .objs [], .fa 4 (.v 1)⟩,
  ⟨some 25, none, none, .objs [], .ld false 1 (.v 24)⟩,
  ⟨some 26, none, none, .objs [], .cv .i64 (.v 25)⟩] ++ mkL [1, 2, 3, 26] ([
  ⟨some 27, none, none, .objs [], .fa 4 (.v 3)⟩,
  ⟨none, none, none, .objs [], .st 1 (.v 27) (.v 26)⟩]))) <|
  .seq (.seq (.ops ([
  ⟨some 28, none, none, .objs [], .fa 0 (.v 3)⟩,
  ⟨some 29, none, none, .objs [], .ld false 1 (.v 28)⟩,
  ⟨some 30, none, none, .objs [], .bin .sub false (.v 29) (.c (.sc (.int .i64 1)))⟩,
  ⟨some 4, none, none, .objs [], .mv (.v 30)⟩])) <|
  .block 0 (.loop (some [1, 2, 3, 4]) il31l0)) <|
  .seq (.ops ([
  ⟨some 51, none, none, .objs [], .ld true 6 (.v 3)⟩,
  ⟨none, none, none, .objs [], .st 6 (.v 2) (.v 51)⟩])) <|
  .ret

theorem il31_eq : cFn Try.prog pol 31 = some ⟨52, il31c, [(2, some (true, 6))]⟩ := by kernel_rfl

noncomputable def il32l0b : C :=
  .seq (.seq (.ops ([
  ⟨some 17, none, none, .objs [], .mv (.v 6)⟩,
  ⟨some 18, none, none, .objs [], .bin .geq false (.v 17) (.c (.sc (.int .i64 0)))⟩])) <|
  .cond (.v 18) (.nop) (.exit 0)) <|
  .seq (.block 1 (.seq (.seq (.ops ([
    ⟨some 21, none, none, .objs [], .fa 2 (.v 1)⟩,
    ⟨some 22, none, none, .objs [], .ld false 1 (.v 21)⟩])) <|
    .cond (.v 22) (.exit 0) (.nop)) <|
    .seq (.seq (.ops ([
    ⟨some 23, none, none, .objs [], .fa 5 (.v 1)⟩,
    ⟨some 24, none, none, .objs [], .ld false 1 (.v 23)⟩,
    ⟨some 25, none, none, .objs [], .mv (.v 6)⟩,
    ⟨some 26, none, none, .objs [], .cv .u64 (.v 25)⟩,
    ⟨some 27, none, none, .objs [], .bin .shr false (.v 24) (.v 26)⟩,
    ⟨some 28, none, none, .objs [], .bin .and false (.v 27) (.c (.sc (.int .u64 1)))⟩,
    ⟨some 29, none, none, .objs [], .bin .neq false (.v 28) (.c (.sc (.int .u64 0)))⟩])) <|
    .cond (.v 29) (.exit 1) (.nop)) <|
    .seq (.ops ([
    ⟨some 31, none, none, .objs [], .fa 3 (.v 1)⟩,
    ⟨some 32, none, none, .objs [], .ld false 1 (.v 31)⟩,
    ⟨some 33, none, none, .objs [], .mv (.v 6)⟩] ++ mkL [1, 5, 6, 32, 33] ([
    ⟨some 34, none, none, .objs [], .ng (.v 33)⟩,
    ⟨some 35, none, none, .objs [], .call (.c (.fn (.func 17) [] [])) [(.v 32), (.v 34)]⟩,
    ⟨some 30, none, none, .objs [], .mv (.v 35)⟩,
    ⟨some 36, none, none, .objs [], .ex (.v 30) 0⟩,
    ⟨some 37, none, none, .objs [], .ex (.v 30) 1⟩,
    ⟨some 7, none, none, .objs [], .mv (.v 36)⟩,
    ⟨some 8, none, none, .objs [], .mv (.v 37)⟩]))) <|
    .ops ([
    ⟨some 38, none, none, .objs [], .mv (.v 5)⟩,
    ⟨some 39, none, none, .objs [], .mv (.v 7)⟩,
    ⟨some 40, none, none, .objs [], .bs false 1 (.sc (.int .i64 0)) 1 [(0, (.v 39))]⟩,
    ⟨some 41, none, none, .objs [], .app 1 8 (.v 38) (.v 40)⟩,
    ⟨some 5, none, none, .objs [], .gmv 1 (.v 41)⟩]))) <|
  .ops ([
  ⟨some 19, none, none, .objs [], .mv (.v 6)⟩,
  ⟨some 20, none, none, .objs [], .bin .sub false (.v 19) (.c (.sc (.int .i64 1)))⟩] ++ mkL [1, 5, 20] ([
  ⟨some 6, none, none, .objs [], .mv (.v 20)⟩]))
noncomputable def il32l0 : C := il32l0b
theorem il32l0_go {P : Program} {pol : Pol} {K : Oracle} {I : Inl} {n : Nat} {f : FuncId} {R : Xit → FEnv → Heap → Prop} {e : FEnv} {h : Heap} : wc P pol K I n f il32l0 R e h = wc P pol K I n f il32l0b R e h := (fun x => x) rfl

/-- isochron/recover.Missing -/
noncomputable def il32c : C :=
  .seq (.ops ([
  ⟨some 1, none, none, .objs [], .bx false (.v 0)⟩,
  ⟨some 2, none, none, .objs [], .mv (.c (.sc (.slice none 0 0)))⟩,
  ⟨some 3, none, none, .objs [], .mv (.c (.sc (.int .i64 0)))⟩])) <|
  .seq (.seq (.ops ([
  ⟨some 9, none, none, .objs [], .ld true 6 (.v 1)⟩,
  ⟨some 10, none, none, .objs [], .call (.c (.fn (.func 34) [] [])) [(.v 9)]⟩,
  ⟨some 4, none, none, .objs [], .mv (.v 10)⟩])) <|
  .seq (.ops ([
  ⟨some 11, none, none, .objs [], .mv (.v 4)⟩,
  ⟨some 12, none, none, .objs [], .bin .neq false (.v 11) (.c (.sc (.int .i64 0)))⟩])) <|
  .cond (.v 12) (.seq (.ops ([
    ⟨some 13, none, none, .objs [], .mv (.v 4)⟩,
    ⟨some 2, none, none, .objs [], .mv (.c (.sc (.slice none 0 0)))⟩,
    ⟨some 3, none, none, .objs [], .mv (.v 13)⟩])) <|
    .ret) (.nop)) <|
  .seq (.ops ([
  ⟨some 5, none, none, .objs [], .gmv 1 (.c (.sc (.slice none 0 0)))⟩])) <|
  .seq (.nop) <|
  .seq (.seq (.ops ([
  ⟨some 14, none, none, .objs [], .fa 0 (.v 1)⟩,
  ⟨some 15, none, none, .objs [], .ld false 1 (.v 14)⟩] ++ mkL [1, 5, 15] ([
  ⟨some 16, none, none, .objs [], .bin .sub false (.v 15) (.c (.sc (.int .i64 1)))⟩,
  ⟨some 6, none, none, .objs [], .mv (.v 16)⟩]))) <|
  .block 0 (.loop (some [1, 5, 6]) il32l0)) <|
  .seq (.ops ([
  ⟨some 42, none, none, .objs [], .mv (.v 5)⟩,
  ⟨some 2, none, none, .objs [], .mv (.v 42)⟩,
  ⟨some 3, none, none, .objs [], .mv (.c (.sc (.int .i64 0)))⟩])) <|
  .ret

theorem il32_eq : cFn Try.prog pol 32 = some ⟨43, il32c, [(2, none), (3, none)]⟩ := by kernel_rfl

noncomputable def il33l0b : C :=
  .seq (.seq (.ops ([
  ⟨some 59, none, none, .objs [], .mv (.v 3)⟩,
  ⟨some 60, none, none, .objs [], .bin .lss false (.v 59) (.c (.sc (.int .i64 64)))⟩])) <|
  .cond (.v 60) (.nop) (.exit 0)) <|
  .seq (.block 1 (.seq (.ops ([
    ⟨some 63, none, none, .objs [], .fa 5 (.v 1)⟩,
    ⟨some 64, none, none, .objs [], .ld false 1 (.v 63)⟩,
    ⟨some 65, none, none, .objs [], .mv (.v 3)⟩,
    ⟨some 66, none, none, .objs [], .call (.c (.fn (.func 49) [] [])) [(.v 64), (.v 65)]⟩])) <|
    .cond (.v 66) (.seq (.ops ([
      ⟨some 2, none, none, .objs [], .mv (.c (.sc (.bool false)))⟩])) <|
      .ret) (.nop))) <|
  .ops ([
  ⟨some 61, none, none, .objs [], .mv (.v 3)⟩,
  ⟨some 62, none, none, .objs [], .bin .add false (.v 61) (.c (.sc (.int .i64 1)))⟩,
  ⟨some 3, none, none, .objs [], .mv (.v 62)⟩])
noncomputable def il33l0 : C := il33l0b
theorem il33l0_go {P : Program} {pol : Pol} {K : Oracle} {I : Inl} {n : Nat} {f : FuncId} {R : Xit → FEnv → Heap → Prop} {e : FEnv} {h : Heap} : wc P pol K I n f il33l0 R e h = wc P pol K I n f il33l0b R e h := (fun x => x) rfl

/-- isochron/isochronref40.Right -/
noncomputable def il33c : C :=
  .seq (.ops ([
  ⟨some 1, none, none, .objs [], .bx false (.v 0)⟩,
  ⟨some 2, none, none, .objs [], .mv (.c (.sc (.bool false)))⟩])) <|
  .seq (.seq (.ops ([
  ⟨some 4, none, none, .objs [], .fa 0 (.v 1)⟩,
  ⟨some 5, none, none, .objs [], .ld false 1 (.v 4)⟩,
  ⟨some 6, none, none, .objs [], .bin .lss false (.v 5) (.c (.sc (.int .i64 1)))⟩,
  ⟨some 7, none, none, .objs [], .mv (.v 6)⟩,
  ⟨some 8, some (7, false), none, .objs [], .fa 0 (.v 1)⟩,
  ⟨some 9, some (7, false), none, .objs [], .ld false 1 (.v 8)⟩,
  ⟨some 10, some (7, false), none, .objs [], .bin .gtr false (.v 9) (.c (.sc (.int .i64 64)))⟩,
  ⟨some 11, none, none, .objs [], .pk (.v 7) (.c (.sc (.bool true))) (.v 10)⟩,
  ⟨some 12, none, none, .objs [], .mv (.v 11)⟩,
  ⟨some 13, some (12, false), none, .objs [], .fa 1 (.v 1)⟩,
  ⟨some 14, some (12, false), none, .objs [], .ld false 1 (.v 13)⟩,
  ⟨some 15, some (12, false), none, .objs [], .bin .lss false (.v 14) (.c (.sc (.int .i64 1)))⟩] ++ mkL [1, 12, 15] ([
  ⟨some 16, none, none, .objs [], .pk (.v 12) (.c (.sc (.bool true))) (.v 15)⟩,
  ⟨some 17, none, none, .objs [], .mv (.v 16)⟩,
  ⟨some 18, some (17, false), none, .objs [], .fa 1 (.v 1)⟩,
  ⟨some 19, some (17, false), none, .objs [], .ld false 1 (.v 18)⟩,
  ⟨some 20, some (17, false), none, .objs [], .bin .gtr false (.v 19) (.c (.sc (.int .i64 1099511627776)))⟩,
  ⟨some 21, none, none, .objs [], .pk (.v 17) (.c (.sc (.bool true))) (.v 20)⟩]))) <|
  .cond (.v 21) (.seq (.ops ([
    ⟨some 2, none, none, .objs [], .mv (.c (.sc (.bool false)))⟩])) <|
    .ret) (.nop)) <|
  .seq (.seq (.ops ([
  ⟨some 22, none, none, .objs [], .fa 2 (.v 1)⟩,
  ⟨some 23, none, none, .objs [], .ld false 1 (.v 22)⟩])) <|
  .cond (.v 23) (.seq (.ops ([
    ⟨some 24, none, none, .objs [], .fa 3 (.v 1)⟩,
    ⟨some 25, none, none, .objs [], .ld false 1 (.v 24)⟩,
    ⟨some 26, none, none, .objs [], .bin .eql false (.v 25) (.c (.sc (.int .i64 0)))⟩,
    ⟨some 27, none, none, .objs [], .mv (.v 26)⟩,
    ⟨some 28, some (27, true), none, .objs [], .fa 4 (.v 1)⟩] ++ mkL [1, 27, 28] ([
    ⟨some 29, some (27, true), none, .objs [], .ld false 1 (.v 28)⟩,
    ⟨some 30, some (27, true), none, .objs [], .bin .eql false (.v 29) (.c (.sc (.int .i64 0)))⟩,
    ⟨some 31, none, none, .objs [], .pk (.v 27) (.v 30) (.c (.sc (.bool false)))⟩,
    ⟨some 32, none, none, .objs [], .mv (.v 31)⟩,
    ⟨some 33, some (32, true), none, .objs [], .fa 5 (.v 1)⟩,
    ⟨some 34, some (32, true), none, .objs [], .ld false 1 (.v 33)⟩,
    ⟨some 35, some (32, true), none, .objs [], .bin .eql false (.v 34) (.c (.sc (.int .u64 0)))⟩,
    ⟨some 36, none, none, .objs [], .pk (.v 32) (.v 35) (.c (.sc (.bool false)))⟩,
    ⟨some 2, none, none, .objs [], .mv (.v 36)⟩]))) <|
    .ret) (.nop)) <|
  .seq (.seq (.ops ([
  ⟨some 37, none, none, .objs [], .fa 3 (.v 1)⟩,
  ⟨some 38, none, none, .objs [], .ld false 1 (.v 37)⟩,
  ⟨some 39, none, none, .objs [], .call (.c (.fn (.func 20) [] [])) [(.v 38)]⟩,
  ⟨some 40, none, none, .objs [], .nt (.v 39)⟩,
  ⟨some 41, none, none, .objs [], .mv (.v 40)⟩] ++ mkL [1, 41] ([
  ⟨some 42, some (41, false), none, .objs [], .fa 4 (.v 1)⟩,
  ⟨some 43, some (41, false), none, .objs [], .ld false 1 (.v 42)⟩,
  ⟨some 44, some (41, false), none, .objs [], .bin .lss false (.v 43) (.c (.sc (.int .i64 0)))⟩,
  ⟨some 45, none, none, .objs [], .pk (.v 41) (.c (.sc (.bool true))) (.v 44)⟩,
  ⟨some 46, none, none, .objs [], .mv (.v 45)⟩,
  ⟨some 47, some (46, false), none, .objs [], .fa 4 (.v 1)⟩,
  ⟨some 48, some (46, false), none, .objs [], .ld false 1 (.v 47)⟩,
  ⟨some 49, some (46, false), none, .objs [], .bin .gtr false (.v 48) (.c (.sc (.int .i64 1099511627776)))⟩,
  ⟨some 50, none, none, .objs [], .pk (.v 46) (.c (.sc (.bool true))) (.v 49)⟩,
  ⟨some 51, none, none, .objs [], .mv (.v 50)⟩,
  ⟨some 52, some (51, false), none, .objs [], .fa 5 (.v 1)⟩,
  ⟨some 53, some (51, false), none, .objs [], .ld false 1 (.v 52)⟩,
  ⟨some 54, some (51, false), none, .objs [], .call (.c (.fn (.func 49) [] [])) [(.v 53), (.c (.sc (.int .i64 0)))]⟩,
  ⟨some 55, some (51, false), none, .objs [], .nt (.v 54)⟩] ++ mkL [1, 51, 55] ([
  ⟨some 56, none, none, .objs [], .pk (.v 51) (.c (.sc (.bool true))) (.v 55)⟩])))) <|
  .cond (.v 56) (.seq (.ops ([
    ⟨some 2, none, none, .objs [], .mv (.c (.sc (.bool false)))⟩])) <|
    .ret) (.nop)) <|
  .seq (.seq (.ops ([
  ⟨some 57, none, none, .objs [], .fa 0 (.v 1)⟩,
  ⟨some 58, none, none, .objs [], .ld false 1 (.v 57)⟩,
  ⟨some 3, none, none, .objs [], .mv (.v 58)⟩])) <|
  .block 0 (.loop (some [1, 3]) il33l0)) <|
  .seq (.ops ([
  ⟨some 2, none, none, .objs [], .mv (.c (.sc (.bool true)))⟩])) <|
  .ret

theorem il33_eq : cFn Try.prog pol 33 = some ⟨67, il33c, [(2, none)]⟩ := by kernel_rfl

/-- isochron/recover.Check -/
noncomputable def il34c : C :=
  .seq (.ops ([
  ⟨some 1, none, none, .objs [], .bx false (.v 0)⟩,
  ⟨some 2, none, none, .objs [], .mv (.c (.sc (.int .i64 0)))⟩])) <|
  .seq (.seq (.ops ([
  ⟨some 4, none, none, .objs [], .fa 0 (.v 1)⟩,
  ⟨some 5, none, none, .objs [], .ld false 1 (.v 4)⟩,
  ⟨some 6, none, none, .objs [], .fa 1 (.v 1)⟩,
  ⟨some 7, none, none, .objs [], .ld false 1 (.v 6)⟩,
  ⟨some 8, none, none, .objs [], .call (.c (.fn (.func 50) [] [])) [(.v 5), (.v 7)]⟩,
  ⟨some 9, none, none, .objs [], .nt (.v 8)⟩])) <|
  .cond (.v 9) (.seq (.ops ([
    ⟨some 2, none, none, .objs [], .mv (.c (.sc (.int .i64 500)))⟩])) <|
    .ret) (.nop)) <|
  .seq (.seq (.ops ([
  ⟨some 10, none, none, .objs [], .fa 2 (.v 1)⟩,
  ⟨some 11, none, none, .objs [], .ld false 1 (.v 10)⟩])) <|
  .cond (.v 11) (.seq (.seq (.ops ([
    ⟨some 12, none, none, .objs [], .ld true 6 (.v 1)⟩,
    ⟨some 13, none, none, .objs [], .fa 0 (.v 1)⟩,
    ⟨some 14, none, none, .objs [], .ld false 1 (.v 13)⟩] ++ mkL [1, 12, 14] ([
    ⟨some 15, none, none, .objs [], .fa 1 (.v 1)⟩,
    ⟨some 16, none, none, .objs [], .ld false 1 (.v 15)⟩,
    ⟨some 17, none, none, .objs [], .bd [(.sc (.int .i64 0)), (.sc (.int .i64 0)), (.sc (.bool false)), (.sc (.int .i64 0)), (.sc (.int .i64 0)), (.sc (.int .u64 0))] [(0, 1, (.v 14)), (1, 1, (.v 16)), (2, 1, (.c (.sc (.bool true))))]⟩,
    ⟨some 18, none, none, .objs [], .raw (opOf Try.prog 34 4 6)⟩]))) <|
    .cond (.v 18) (.seq (.ops ([
      ⟨some 2, none, none, .objs [], .mv (.c (.sc (.int .i64 500)))⟩])) <|
      .ret) (.nop)) <|
    .seq (.ops ([
    ⟨some 2, none, none, .objs [], .mv (.c (.sc (.int .i64 0)))⟩])) <|
    .ret) (.nop)) <|
  .seq (.ops ([
  ⟨some 19, none, none, .objs [], .ld true 6 (.v 1)⟩,
  ⟨some 20, none, none, .objs [], .bd [(.sc (.int .i64 0)), (.sc (.int .i64 0)), (.sc (.bool false)), (.sc (.int .i64 0)), (.sc (.int .i64 0)), (.sc (.int .u64 0)), (.sc (.int .i64 0)), (.sc (.int .i64 0))] [(0, 6, (.v 19))]⟩,
  ⟨some 3, none, none, .objs [], .nw 8 (.agg [(.sc (.int .i64 0)), (.sc (.int .i64 0)), (.sc (.bool false)), (.sc (.int .i64 0)), (.sc (.int .i64 0)), (.sc (.int .u64 0)), (.sc (.int .i64 0)), (.sc (.int .i64 0))])⟩] ++ mkL [1, 3, 20] ([
  ⟨none, none, none, .objs [], .st 8 (.v 3) (.v 20)⟩]))) <|
  .seq (.seq (.opsD [(26, 28)] ([
  ⟨some 21, none, none, .objs [], .fa 3 (.v 1)⟩,
  ⟨some 22, none, none, .objs [(.v 21)], .ld false 1 (.v 21)⟩,
  ⟨some 23, none, none, .objs [], .bin .lss false (.v 22) (.c (.sc (.int .i64 0)))⟩,
  ⟨some 24, none, none, .objs [], .mv (.v 23)⟩,
  ⟨some 25, some (24, false), none, .objs [], .fa 3 (.v 1)⟩,
  ⟨some 26, some (24, false), none, .objs [(.v 25)], .ld false 1 (.v 25)⟩,
  ⟨some 27, some (24, false), none, .objs [], .bin .geq false (.v 26) (.c (.sc (.int .i64 65536)))⟩,
  ⟨some 28, none, none, .objs [], .pk (.v 24) (.c (.sc (.bool true))) (.v 27)⟩,
  ⟨some 29, none, none, .objs [], .mv (.v 28)⟩,
  ⟨some 30, some (29, false), none, .objs [], .fa 4 (.v 1)⟩,
  ⟨some 31, some (29, false), none, .objs [(.v 30)], .ld false 1 (.v 30)⟩,
  ⟨some 32, some (29, false), none, .objs [], .bin .lss false (.v 31) (.c (.sc (.int .i64 0)))⟩,
  ⟨some 33, none, none, .objs [], .pk (.v 29) (.c (.sc (.bool true))) (.v 32)⟩] ++ mkL [1, 3, 33] ([
  ⟨some 34, none, none, .objs [], .mv (.v 33)⟩,
  ⟨some 35, some (34, false), none, .objs [], .fa 4 (.v 1)⟩,
  ⟨some 36, some (34, false), none, .objs [(.v 35)], .ld false 1 (.v 35)⟩,
  ⟨some 37, some (34, false), none, .objs [], .bin .gtr false (.v 36) (.c (.sc (.int .i64 1099511627776)))⟩,
  ⟨some 38, none, none, .objs [], .pk (.v 34) (.c (.sc (.bool true))) (.v 37)⟩,
  ⟨some 39, none, none, .objs [], .mv (.v 38)⟩,
  ⟨some 40, some (39, false), none, .objs [], .fa 5 (.v 1)⟩,
  ⟨some 41, some (39, false), none, .objs [(.v 40)], .ld false 1 (.v 40)⟩,
  ⟨some 42, some (39, false), none, .objs [], .bin .and false (.v 41) (.c (.sc (.int .u64 1)))⟩,
  ⟨some 43, some (39, false), none, .objs [], .bin .eql false (.v 42) (.c (.sc (.int .u64 0)))⟩,
  ⟨some 44, none, none, .objs [], .pk (.v 39) (.c (.sc (.bool true))) (.v 43)⟩,
  ⟨some 45, none, none, .objs [], .mv (.v 44)⟩,
  ⟨some 46, some (45, false), none, .objs [], .fa 5 (.v 1)⟩,
  ⟨some 47, some (45, false), none, .objs [(.v 46)], .ld false 1 (.v 46)⟩] ++ mkL [3, 45, 47] ([
  ⟨some 48, some (45, false), none, .objs [(.v 3)], .ld true 8 (.v 3)⟩,
  ⟨some 49, some (45, false), none, .cal (.c (.fn (.func 51) [] [])) [(.v 48)], .call (.c (.fn (.func 51) [] [])) [(.v 48)]⟩,
  ⟨some 50, some (45, false), none, .objs [], .bin .andNot false (.v 47) (.v 49)⟩,
  ⟨some 51, some (45, false), none, .objs [], .bin .neq false (.v 50) (.c (.sc (.int .u64 0)))⟩,
  ⟨some 52, none, none, .objs [], .pk (.v 45) (.c (.sc (.bool true))) (.v 51)⟩])))) <|
  .cond (.v 52) (.seq (.ops ([
    ⟨some 2, none, none, .objs [], .mv (.c (.sc (.int .i64 500)))⟩])) <|
    .ret) (.nop)) <|
  .seq (.ops ([
  ⟨some 2, none, none, .objs [], .mv (.c (.sc (.int .i64 0)))⟩])) <|
  .ret

theorem il34_eq : cFn Try.prog pol 34 = some ⟨53, il34c, [(2, none)]⟩ := by kernel_rfl
theorem raw34_4_6 {e : FEnv} {h : Heap} : iStep Try.prog pol 34 e h (.raw (opOf Try.prog 34 4 6)) = vOf h (binE Try.prog true 65 (.tmp 12) (.tmp 17) (Src.get e (.v 12)) (Src.get e (.v 17))) := raw_neq (x := (.tmp 12)) (y := (.tmp 17)) (s := 65) (by kernel_rfl)

noncomputable def il35l0b : C :=
  .seq (.ops ([
  ⟨some 14, none, none, .objs [], .bin .lss false (.v 13) (.v 12)⟩])) <|
  .seq (.cond (.v 14) (.nop) (.exit 0)) <|
  .seq (.block 1 (.seq (.ops ([
    ⟨some 15, none, none, .objs [], .mv (.v 13)⟩,
    ⟨some 5, none, none, .objs [], .mv (.v 15)⟩])) <|
    .seq (.opsD [] ([
    ⟨some 16, none, none, .objs [], .mv (.v 0)⟩,
    ⟨some 17, none, none, .objs [], .mv (.v 5)⟩,
    ⟨some 18, none, none, .objs [], .iaS 1 (.v 16) (.v 17)⟩,
    ⟨some 19, none, none, .objs [(.v 18)], .ld false 1 (.v 18)⟩,
    ⟨some 20, none, none, .objs [], .mv (.v 1)⟩,
    ⟨some 21, none, none, .objs [], .mv (.v 5)⟩,
    ⟨some 22, none, none, .objs [], .iaS 1 (.v 20) (.v 21)⟩,
    ⟨some 23, none, none, .objs [(.v 22)], .ld false 1 (.v 22)⟩,
    ⟨some 24, none, none, .objs [], .bin .neq false (.v 19) (.v 23)⟩])) <|
    .cond (.v 24) (.seq (.ops ([
      ⟨some 4, none, none, .objs [], .mv (.c (.sc (.bool false)))⟩])) <|
      .ret) (.nop))) <|
  .ops ([
  ⟨some 25, none, none, .objs [], .bin .add false (.v 13) (.c (.sc (.int .i64 1)))⟩] ++ mkL [0, 1, 12, 25] ([
  ⟨some 13, none, none, .objs [], .mv (.v 25)⟩]))
noncomputable def il35l0 : C := il35l0b
theorem il35l0_go {P : Program} {pol : Pol} {K : Oracle} {I : Inl} {n : Nat} {f : FuncId} {R : Xit → FEnv → Heap → Prop} {e : FEnv} {h : Heap} : wc P pol K I n f il35l0 R e h = wc P pol K I n f il35l0b R e h := (fun x => x) rfl

/-- slices.Equal[[]int,int] -/
noncomputable def il35c : C :=
  .seq (.ops ([
  ⟨some 4, none, none, .objs [], .mv (.c (.sc (.bool false)))⟩])) <|
  .seq (.seq (.ops ([
  ⟨some 6, none, none, .objs [], .mv (.v 0)⟩,
  ⟨some 7, none, none, .objs [], .lenS (.v 6)⟩,
  ⟨some 8, none, none, .objs [], .mv (.v 1)⟩,
  ⟨some 9, none, none, .objs [], .lenS (.v 8)⟩,
  ⟨some 10, none, none, .objs [], .bin .neq false (.v 7) (.v 9)⟩])) <|
  .cond (.v 10) (.seq (.ops ([
    ⟨some 4, none, none, .objs [], .mv (.c (.sc (.bool false)))⟩])) <|
    .ret) (.nop)) <|
  .seq (.seq (.ops ([
  ⟨some 11, none, none, .objs [], .mv (.v 0)⟩,
  ⟨some 12, none, none, .objs [], .lenS (.v 11)⟩,
  ⟨some 13, none, none, .objs [], .mv (.c (.sc (.int .i64 0)))⟩])) <|
  .block 0 (.loop (some [0, 1, 12, 13]) il35l0)) <|
  .seq (.ops ([
  ⟨some 4, none, none, .objs [], .mv (.c (.sc (.bool true)))⟩])) <|
  .ret

theorem il35_eq : cFn Try.prog pol 35 = some ⟨26, il35c, [(4, none)]⟩ := by kernel_rfl

noncomputable def il36l0b : C :=
  .seq (.seq (.ops ([
  ⟨some 11, none, none, .objs [], .mv (.v 4)⟩,
  ⟨some 12, none, none, .objs [], .bin .geq false (.v 11) (.c (.sc (.int .i64 1)))⟩])) <|
  .cond (.v 12) (.nop) (.exit 0)) <|
  .seq (.block 1 (.seq (.ops ([
    ⟨some 15, none, none, .objs [], .fa 5 (.v 1)⟩,
    ⟨some 16, none, none, .objs [], .ld false 1 (.v 15)⟩,
    ⟨some 17, none, none, .objs [], .mv (.v 4)⟩,
    ⟨some 18, none, none, .objs [], .call (.c (.fn (.func 49) [] [])) [(.v 16), (.v 17)]⟩,
    ⟨some 19, none, none, .objs [], .nt (.v 18)⟩])) <|
    .cond (.v 19) (.ops ([
      ⟨some 20, none, none, .objs [], .mv (.v 3)⟩,
      ⟨some 21, none, none, .objs [], .fa 3 (.v 1)⟩,
      ⟨some 22, none, none, .objs [], .ld false 1 (.v 21)⟩,
      ⟨some 23, none, none, .objs [], .mv (.v 4)⟩,
      ⟨some 24, none, none, .objs [], .ng (.v 23)⟩,
      ⟨some 25, none, none, .objs [], .call (.c (.fn (.func 19) [] [])) [(.v 22), (.v 24)]⟩,
      ⟨some 26, none, none, .objs [], .bs false 1 (.sc (.int .i64 0)) 1 [(0, (.v 25))]⟩] ++ mkL [1, 4, 20, 26] ([
      ⟨some 27, none, none, .objs [], .app 1 8 (.v 20) (.v 26)⟩,
      ⟨some 3, none, none, .objs [], .gmv 1 (.v 27)⟩]))) (.nop))) <|
  .ops ([
  ⟨some 13, none, none, .objs [], .mv (.v 4)⟩,
  ⟨some 14, none, none, .objs [], .bin .sub false (.v 13) (.c (.sc (.int .i64 1)))⟩,
  ⟨some 4, none, none, .objs [], .mv (.v 14)⟩])
noncomputable def il36l0 : C := il36l0b
theorem il36l0_go {P : Program} {pol : Pol} {K : Oracle} {I : Inl} {n : Nat} {f : FuncId} {R : Xit → FEnv → Heap → Prop} {e : FEnv} {h : Heap} : wc P pol K I n f il36l0 R e h = wc P pol K I n f il36l0b R e h := (fun x => x) rfl

/-- isochron/isochronref40.Missing -/
noncomputable def il36c : C :=
  .seq (.ops ([
  ⟨some 1, none, none, .objs [], .bx false (.v 0)⟩,
  ⟨some 2, none, none, .objs [], .mv (.c (.sc (.slice none 0 0)))⟩])) <|
  .seq (.ops ([
  ⟨some 3, none, none, .objs [], .gmv 1 (.c (.sc (.slice none 0 0)))⟩])) <|
  .seq (.seq (.ops ([
  ⟨some 5, none, none, .objs [], .fa 2 (.v 1)⟩,
  ⟨some 6, none, none, .objs [], .ld false 1 (.v 5)⟩])) <|
  .cond (.v 6) (.seq (.ops ([
    ⟨some 7, none, none, .objs [], .mv (.v 3)⟩,
    ⟨some 2, none, none, .objs [], .mv (.v 7)⟩])) <|
    .ret) (.nop)) <|
  .seq (.seq (.ops ([
  ⟨some 8, none, none, .objs [], .fa 0 (.v 1)⟩,
  ⟨some 9, none, none, .objs [], .ld false 1 (.v 8)⟩,
  ⟨some 10, none, none, .objs [], .bin .sub false (.v 9) (.c (.sc (.int .i64 1)))⟩,
  ⟨some 4, none, none, .objs [], .mv (.v 10)⟩])) <|
  .block 0 (.loop (some [1, 3, 4]) il36l0)) <|
  .seq (.ops ([
  ⟨some 28, none, none, .objs [], .mv (.v 3)⟩,
  ⟨some 2, none, none, .objs [], .mv (.v 28)⟩])) <|
  .ret

theorem il36_eq : cFn Try.prog pol 36 = some ⟨29, il36c, [(2, none)]⟩ := by kernel_rfl

/-- isochron/recover.New -/
noncomputable def il37c : C :=
  .seq (.ops ([
  ⟨some 4, none, none, .objs [], .nw 6 (.agg [(.sc (.int .i64 0)), (.sc (.int .i64 0)), (.sc (.bool false)), (.sc (.int .i64 0)), (.sc (.int .i64 0)), (.sc (.int .u64 0))])⟩,
  ⟨some 5, none, none, .objs [], .mv (.c (.sc (.int .i64 0)))⟩])) <|
  .seq (.seq (.ops ([
  ⟨some 6, none, none, .objs [], .mv (.v 0)⟩,
  ⟨some 7, none, none, .objs [], .mv (.v 1)⟩,
  ⟨some 8, none, none, .objs [], .call (.c (.fn (.func 50) [] [])) [(.v 6), (.v 7)]⟩,
  ⟨some 9, none, none, .objs [], .nt (.v 8)⟩])) <|
  .cond (.v 9) (.seq (.ops ([
    ⟨some 10, none, none, .objs [], .bd [(.sc (.int .i64 0)), (.sc (.int .i64 0)), (.sc (.bool false)), (.sc (.int .i64 0)), (.sc (.int .i64 0)), (.sc (.int .u64 0))] []⟩,
    ⟨none, none, none, .objs [], .st 6 (.v 4) (.v 10)⟩,
    ⟨some 5, none, none, .objs [], .mv (.c (.sc (.int .i64 2)))⟩])) <|
    .ret) (.nop)) <|
  .seq (.ops ([
  ⟨some 11, none, none, .objs [], .mv (.v 0)⟩,
  ⟨some 12, none, none, .objs [], .mv (.v 1)⟩,
  ⟨some 13, none, none, .objs [], .bd [(.sc (.int .i64 0)), (.sc (.int .i64 0)), (.sc (.bool false)), (.sc (.int .i64 0)), (.sc (.int .i64 0)), (.sc (.int .u64 0))] [(0, 1, (.v 11)), (1, 1, (.v 12)), (2, 1, (.c (.sc (.bool true))))]⟩,
  ⟨none, none, none, .objs [], .st 6 (.v 4) (.v 13)⟩,
  ⟨some 5, none, none, .objs [], .mv (.c (.sc (.int .i64 0)))⟩])) <|
  .ret

theorem il37_eq : cFn Try.prog pol 37 = some ⟨14, il37c, [(4, some (true, 6)), (5, none)]⟩ := by kernel_rfl

/-- isochron/recover.Accept -/
noncomputable def il38c : C :=
  .seq (.ops ([
  ⟨some 3, none, none, .objs [], .bx false (.v 0)⟩,
  ⟨some 6, none, none, .objs [], .nw 6 (.agg [(.sc (.int .i64 0)), (.sc (.int .i64 0)), (.sc (.bool false)), (.sc (.int .i64 0)), (.sc (.int .i64 0)), (.sc (.int .u64 0))])⟩,
  ⟨some 7, none, none, .objs [], .mv (.c (.sc (.bool false)))⟩,
  ⟨some 8, none, none, .objs [], .mv (.c (.sc (.int .i64 0)))⟩])) <|
  .seq (.seq (.ops ([
  ⟨some 12, none, none, .objs [], .ld true 6 (.v 3)⟩,
  ⟨some 13, none, none, .objs [], .call (.c (.fn (.func 34) [] [])) [(.v 12)]⟩,
  ⟨some 9, none, none, .objs [], .mv (.v 13)⟩])) <|
  .seq (.ops ([
  ⟨some 14, none, none, .objs [], .mv (.v 9)⟩,
  ⟨some 15, none, none, .objs [], .bin .neq false (.v 14) (.c (.sc (.int .i64 0)))⟩])) <|
  .cond (.v 15) (.seq (.ops ([
    ⟨some 16, none, none, .objs [], .bd [(.sc (.int .i64 0)), (.sc (.int .i64 0)), (.sc (.bool false)), (.sc (.int .i64 0)), (.sc (.int .i64 0)), (.sc (.int .u64 0))] []⟩,
    ⟨some 17, none, none, .objs [], .mv (.v 9)⟩,
    ⟨none, none, none, .objs [], .st 6 (.v 6) (.v 16)⟩,
    ⟨some 7, none, none, .objs [], .mv (.c (.sc (.bool false)))⟩,
    ⟨some 8, none, none, .objs [], .mv (.v 17)⟩])) <|
    .ret) (.nop)) <| mkC [1, 2, 3, 6] <|
  .seq (.seq (.ops ([
  ⟨some 18, none, none, .objs [], .mv (.v 1)⟩,
  ⟨some 19, none, none, .objs [], .bin .lss false (.v 18) (.c (.sc (.int .i64 0)))⟩,
  ⟨some 20, none, none, .objs [], .mv (.v 19)⟩,
  ⟨some 21, some (20, false), none, .objs [], .mv (.v 1)⟩,
  ⟨some 22, some (20, false), none, .objs [], .bin .geq false (.v 21) (.c (.sc (.int .i64 65536)))⟩,
  ⟨some 23, none, none, .objs [], .pk (.v 20) (.c (.sc (.bool true))) (.v 22)⟩,
  ⟨some 24, none, none, .objs [], .mv (.v 23)⟩,
  ⟨some 25, some (24, false), none, .objs [], .mv (.v 2)⟩,
  ⟨some 26, some (24, false), none, .objs [], .bin .lss false (.v 25) (.c (.sc (.int .i64 0)))⟩,
  ⟨some 27, none, none, .objs [], .pk (.v 24) (.c (.sc (.bool true))) (.v 26)⟩,
  ⟨some 28, none, none, .objs [], .mv (.v 27)⟩,
  ⟨some 29, some (28, false), none, .objs [], .mv (.v 2)⟩,
  ⟨some 30, some (28, false), none, .objs [], .bin .gtr false (.v 29) (.c (.sc (.int .i64 1099511627776)))⟩,
  ⟨some 31, none, none, .objs [], .pk (.v 28) (.c (.sc (.bool true))) (.v 30)⟩] ++ mkL [1, 2, 3, 6, 31] ([
  ⟨some 32, none, none, .objs [], .mv (.v 31)⟩,
  ⟨some 33, some (32, false), none, .objs [], .mv (.v 2)⟩,
  ⟨some 34, some (32, false), none, .objs [], .fa 4 (.v 3)⟩,
  ⟨some 35, some (32, false), none, .objs [], .ld false 1 (.v 34)⟩,
  ⟨some 36, some (32, false), none, .objs [], .bin .lss false (.v 33) (.v 35)⟩,
  ⟨some 37, none, none, .objs [], .pk (.v 32) (.c (.sc (.bool true))) (.v 36)⟩]))) <|
  .cond (.v 37) (.seq (.ops ([
    ⟨some 38, none, none, .objs [], .bd [(.sc (.int .i64 0)), (.sc (.int .i64 0)), (.sc (.bool false)), (.sc (.int .i64 0)), (.sc (.int .i64 0)), (.sc (.int .u64 0))] []⟩,
    ⟨none, none, none, .objs [], .st 6 (.v 6) (.v 38)⟩,
    ⟨some 7, none, none, .objs [], .mv (.c (.sc (.bool false)))⟩,
    ⟨some 8, none, none, .objs [], .mv (.c (.sc (.int .i64 2)))⟩])) <|
    .ret) (.nop)) <|
  .seq (.ops ([
  ⟨some 40, none, none, .objs [], .ld true 6 (.v 3)⟩,
  ⟨some 41, none, none, .objs [], .mv (.v 1)⟩,
  ⟨some 42, none, none, .objs [], .mv (.v 2)⟩,
  ⟨some 43, none, none, .objs [], .bd [(.sc (.int .i64 0)), (.sc (.int .i64 0)), (.sc (.bool false)), (.sc (.int .i64 0)), (.sc (.int .i64 0)), (.sc (.int .u64 0)), (.sc (.int .i64 0)), (.sc (.int .i64 0))] [(0, 6, (.v 40)), (6, 1, (.v 41)), (7, 1, (.v 42))]⟩] ++ mkL [6, 43] ([
  ⟨some 44, none, none, .objs [], .call (.c (.fn (.func 52) [] [])) [(.v 43)]⟩,
  ⟨some 39, none, none, .objs [], .mv (.v 44)⟩,
  ⟨some 45, none, none, .objs [], .ex (.v 39) 0⟩,
  ⟨some 46, none, none, .objs [], .ex (.v 39) 1⟩,
  ⟨some 10, none, none, .objs [], .nw 8 (.agg [(.sc (.int .i64 0)), (.sc (.int .i64 0)), (.sc (.bool false)), (.sc (.int .i64 0)), (.sc (.int .i64 0)), (.sc (.int .u64 0)), (.sc (.int .i64 0)), (.sc (.int .i64 0))])⟩,
  ⟨none, none, none, .objs [], .st 8 (.v 10) (.v 45)⟩,
  ⟨some 11, none, none, .objs [], .mv (.v 46)⟩]))) <|
  .seq (.ops ([
  ⟨some 47, none, none, .objs [], .fa 0 (.v 10)⟩,
  ⟨some 48, none, none, .objs [], .ld true 6 (.v 47)⟩,
  ⟨some 49, none, none, .objs [], .mv (.v 11)⟩,
  ⟨some 50, none, none, .objs [], .bin .eql false (.v 49) (.c (.sc (.int .i64 1)))⟩,
  ⟨none, none, none, .objs [], .st 6 (.v 6) (.v 48)⟩,
  ⟨some 7, none, none, .objs [], .mv (.v 50)⟩,
  ⟨some 8, none, none, .objs [], .mv (.c (.sc (.int .i64 0)))⟩])) <|
  .ret

theorem il38_eq : cFn Try.prog pol 38 = some ⟨51, il38c, [(6, some (true, 6)), (7, none), (8, none)]⟩ := by kernel_rfl

noncomputable def il39l0b : C :=
  .seq (.seq (.ops ([
  ⟨some 67, none, none, .objs [], .mv (.v 11)⟩,
  ⟨some 68, none, none, .objs [], .bin .geq false (.v 67) (.c (.sc (.int .i64 0)))⟩])) <|
  .cond (.v 68) (.nop) (.exit 0)) <|
  .seq (.block 1 (.seq (.ops ([
    ⟨some 71, none, none, .objs [], .mv (.v 10)⟩,
    ⟨some 72, none, none, .objs [], .bin .mul false (.v 71) (.c (.sc (.int .u64 2)))⟩,
    ⟨some 10, none, none, .objs [], .mv (.v 72)⟩])) <|
    .seq (.ops ([
    ⟨some 73, none, none, .objs [], .mv (.v 9)⟩,
    ⟨some 74, none, none, .objs [], .mv (.v 11)⟩,
    ⟨some 75, none, none, .objs [], .ng (.v 74)⟩,
    ⟨some 76, none, none, .objs [], .call (.c (.fn (.func 19) [] [])) [(.v 73), (.v 75)]⟩,
    ⟨some 12, none, none, .objs [], .mv (.v 76)⟩])) <|
    .seq (.ops ([
    ⟨some 77, none, none, .objs [], .fa 3 (.v 3)⟩,
    ⟨some 78, none, none, .objs [], .ld false 1 (.v 77)⟩,
    ⟨some 79, none, none, .objs [], .mv (.v 12)⟩,
    ⟨some 80, none, none, .objs [], .call (.c (.fn (.func 53) [] [])) [(.v 78), (.v 79)]⟩] ++ mkL [1, 2, 3, 6, 9, 10, 11, 12, 80] ([
    ⟨some 81, none, none, .objs [], .ng (.v 80)⟩,
    ⟨some 13, none, none, .objs [], .mv (.v 81)⟩]))) <|
    .seq (.ops ([
    ⟨some 82, none, none, .objs [], .mv (.v 13)⟩,
    ⟨some 83, none, none, .objs [], .bin .geq false (.v 82) (.c (.sc (.int .i64 0)))⟩,
    ⟨some 84, none, none, .objs [], .mv (.v 83)⟩,
    ⟨some 85, some (84, true), none, .objs [], .mv (.v 13)⟩,
    ⟨some 86, some (84, true), none, .objs [], .fa 0 (.v 3)⟩,
    ⟨some 87, some (84, true), none, .objs [], .ld false 1 (.v 86)⟩,
    ⟨some 88, some (84, true), none, .objs [], .bin .lss false (.v 85) (.v 87)⟩,
    ⟨some 89, none, none, .objs [], .pk (.v 84) (.v 88) (.c (.sc (.bool false)))⟩,
    ⟨some 90, none, none, .objs [], .mv (.v 89)⟩,
    ⟨some 91, some (90, true), none, .objs [], .fa 5 (.v 3)⟩,
    ⟨some 92, some (90, true), none, .objs [], .ld false 1 (.v 91)⟩,
    ⟨some 93, some (90, true), none, .objs [], .mv (.v 13)⟩] ++ mkL [1, 2, 3, 6, 9, 10, 11, 12, 90, 92, 93] ([
    ⟨some 94, some (90, true), none, .objs [], .call (.c (.fn (.func 49) [] [])) [(.v 92), (.v 93)]⟩,
    ⟨some 95, none, none, .objs [], .pk (.v 90) (.v 94) (.c (.sc (.bool false)))⟩,
    ⟨some 14, none, none, .objs [], .mv (.v 95)⟩]))) <|
    .seq (.ops ([
    ⟨some 96, none, none, .objs [], .mv (.v 12)⟩,
    ⟨some 97, none, none, .objs [], .mv (.v 1)⟩,
    ⟨some 98, none, none, .objs [], .bin .eql false (.v 96) (.v 97)⟩,
    ⟨some 99, none, none, .objs [], .mv (.v 98)⟩,
    ⟨some 100, some (99, false), none, .objs [], .mv (.v 14)⟩,
    ⟨some 101, none, none, .objs [], .pk (.v 99) (.c (.sc (.bool true))) (.v 100)⟩])) <|
    .cond (.v 101) (.ops ([
      ⟨some 102, none, none, .objs [], .mv (.v 10)⟩,
      ⟨some 103, none, none, .objs [], .bin .add false (.v 102) (.c (.sc (.int .u64 1)))⟩,
      ⟨some 10, none, none, .objs [], .mv (.v 103)⟩])) (.nop))) <|
  .ops ([
  ⟨some 69, none, none, .objs [], .mv (.v 11)⟩,
  ⟨some 70, none, none, .objs [], .bin .sub false (.v 69) (.c (.sc (.int .i64 1)))⟩] ++ mkL [1, 2, 3, 6, 9, 10, 70] ([
  ⟨some 11, none, none, .objs [], .mv (.v 70)⟩]))
noncomputable def il39l0 : C := il39l0b
theorem il39l0_go {P : Program} {pol : Pol} {K : Oracle} {I : Inl} {n : Nat} {f : FuncId} {R : Xit → FEnv → Heap → Prop} {e : FEnv} {h : Heap} : wc P pol K I n f il39l0 R e h = wc P pol K I n f il39l0b R e h := (fun x => x) rfl

/-- isochron/isochronref40.Accept -/
noncomputable def il39c : C :=
  .seq (.ops ([
  ⟨some 3, none, none, .objs [], .bx false (.v 0)⟩,
  ⟨some 6, none, none, .objs [], .nw 6 (.agg [(.sc (.int .i64 0)), (.sc (.int .i64 0)), (.sc (.bool false)), (.sc (.int .i64 0)), (.sc (.int .i64 0)), (.sc (.int .u64 0))])⟩,
  ⟨some 7, none, none, .objs [], .mv (.c (.sc (.bool false)))⟩])) <|
  .seq (.seq (.ops ([
  ⟨some 15, none, none, .objs [], .fa 2 (.v 3)⟩,
  ⟨some 16, none, none, .objs [], .ld false 1 (.v 15)⟩,
  ⟨some 17, none, none, .objs [], .mv (.v 16)⟩,
  ⟨some 18, some (17, false), none, .objs [], .mv (.v 2)⟩,
  ⟨some 19, some (17, false), none, .objs [], .fa 4 (.v 3)⟩,
  ⟨some 20, some (17, false), none, .objs [], .ld false 1 (.v 19)⟩,
  ⟨some 21, some (17, false), none, .objs [], .bin .sub false (.v 18) (.v 20)⟩,
  ⟨some 22, some (17, false), none, .objs [], .fa 1 (.v 3)⟩,
  ⟨some 23, some (17, false), none, .objs [], .ld false 1 (.v 22)⟩,
  ⟨some 24, some (17, false), none, .objs [], .bin .gtr false (.v 21) (.v 23)⟩,
  ⟨some 25, none, none, .objs [], .pk (.v 17) (.c (.sc (.bool true))) (.v 24)⟩])) <| mkC [1, 2, 3, 6, 25] <|
  .cond (.v 25) (.seq (.ops ([
    ⟨some 26, none, none, .objs [], .fa 0 (.v 3)⟩,
    ⟨some 27, none, none, .objs [], .ld false 1 (.v 26)⟩,
    ⟨some 28, none, none, .objs [], .fa 1 (.v 3)⟩,
    ⟨some 29, none, none, .objs [], .ld false 1 (.v 28)⟩,
    ⟨some 30, none, none, .objs [], .mv (.v 1)⟩,
    ⟨some 31, none, none, .objs [], .mv (.v 2)⟩,
    ⟨some 32, none, none, .objs [], .bd [(.sc (.int .i64 0)), (.sc (.int .i64 0)), (.sc (.bool false)), (.sc (.int .i64 0)), (.sc (.int .i64 0)), (.sc (.int .u64 0))] [(0, 1, (.v 27)), (1, 1, (.v 29)), (3, 1, (.v 30)), (4, 1, (.v 31)), (5, 1, (.c (.sc (.int .u64 1))))]⟩,
    ⟨none, none, none, .objs [], .st 6 (.v 6) (.v 32)⟩,
    ⟨some 7, none, none, .objs [], .mv (.c (.sc (.bool true)))⟩])) <|
    .ret) (.nop)) <|
  .seq (.ops ([
  ⟨some 33, none, none, .objs [], .fa 3 (.v 3)⟩,
  ⟨some 34, none, none, .objs [], .ld false 1 (.v 33)⟩,
  ⟨some 35, none, none, .objs [], .mv (.v 1)⟩,
  ⟨some 36, none, none, .objs [], .call (.c (.fn (.func 53) [] [])) [(.v 34), (.v 35)]⟩,
  ⟨some 8, none, none, .objs [], .mv (.v 36)⟩])) <| mkC [1, 2, 3, 6, 8] <|
  .seq (.seq (.ops ([
  ⟨some 37, none, none, .objs [], .mv (.v 8)⟩,
  ⟨some 38, none, none, .objs [], .fa 0 (.v 3)⟩,
  ⟨some 39, none, none, .objs [], .ld false 1 (.v 38)⟩,
  ⟨some 40, none, none, .objs [], .ng (.v 39)⟩,
  ⟨some 41, none, none, .objs [], .bin .leq false (.v 37) (.v 40)⟩,
  ⟨some 42, none, none, .objs [], .mv (.v 41)⟩,
  ⟨some 43, some (42, false), none, .objs [], .mv (.v 8)⟩,
  ⟨some 44, some (42, false), none, .objs [], .fa 0 (.v 3)⟩,
  ⟨some 45, some (42, false), none, .objs [], .ld false 1 (.v 44)⟩,
  ⟨some 46, some (42, false), none, .objs [], .bin .geq false (.v 43) (.v 45)⟩,
  ⟨some 47, none, none, .objs [], .pk (.v 42) (.c (.sc (.bool true))) (.v 46)⟩])) <|
  .cond (.v 47) (.seq (.ops ([
    ⟨some 48, none, none, .objs [], .ld true 6 (.v 3)⟩,
    ⟨none, none, none, .objs [], .st 6 (.v 6) (.v 48)⟩,
    ⟨some 7, none, none, .objs [], .mv (.c (.sc (.bool false)))⟩])) <|
    .ret) (.nop)) <| mkC [1, 2, 3, 6, 8] <|
  .seq (.seq (.ops ([
  ⟨some 49, none, none, .objs [], .mv (.v 8)⟩,
  ⟨some 50, none, none, .objs [], .bin .leq false (.v 49) (.c (.sc (.int .i64 0)))⟩,
  ⟨some 51, none, none, .objs [], .mv (.v 50)⟩,
  ⟨some 52, some (51, true), none, .objs [], .fa 5 (.v 3)⟩,
  ⟨some 53, some (51, true), none, .objs [], .ld false 1 (.v 52)⟩,
  ⟨some 54, some (51, true), none, .objs [], .mv (.v 8)⟩,
  ⟨some 55, some (51, true), none, .objs [], .ng (.v 54)⟩,
  ⟨some 56, some (51, true), none, .objs [], .call (.c (.fn (.func 49) [] [])) [(.v 53), (.v 55)]⟩,
  ⟨some 57, none, none, .objs [], .pk (.v 51) (.v 56) (.c (.sc (.bool false)))⟩])) <|
  .cond (.v 57) (.seq (.ops ([
    ⟨some 58, none, none, .objs [], .ld true 6 (.v 3)⟩,
    ⟨none, none, none, .objs [], .st 6 (.v 6) (.v 58)⟩,
    ⟨some 7, none, none, .objs [], .mv (.c (.sc (.bool false)))⟩])) <|
    .ret) (.nop)) <|
  .seq (.ops ([
  ⟨some 59, none, none, .objs [], .fa 3 (.v 3)⟩,
  ⟨some 60, none, none, .objs [], .ld false 1 (.v 59)⟩] ++ mkL [1, 2, 3, 6, 8, 60] ([
  ⟨some 9, none, none, .objs [], .mv (.v 60)⟩]))) <|
  .seq (.seq (.ops ([
  ⟨some 61, none, none, .objs [], .mv (.v 8)⟩,
  ⟨some 62, none, none, .objs [], .bin .gtr false (.v 61) (.c (.sc (.int .i64 0)))⟩])) <|
  .cond (.v 62) (.ops ([
    ⟨some 63, none, none, .objs [], .mv (.v 1)⟩,
    ⟨some 9, none, none, .objs [], .mv (.v 63)⟩])) (.nop)) <|
  .seq (.ops ([
  ⟨some 10, none, none, .objs [], .mv (.c (.sc (.int .u64 0)))⟩])) <|
  .seq (.seq (.ops ([
  ⟨some 64, none, none, .objs [], .fa 0 (.v 3)⟩,
  ⟨some 65, none, none, .objs [], .ld false 1 (.v 64)⟩,
  ⟨some 66, none, none, .objs [], .bin .sub false (.v 65) (.c (.sc (.int .i64 1)))⟩,
  ⟨some 11, none, none, .objs [], .mv (.v 66)⟩])) <|
  .block 0 (.loop (some [1, 2, 3, 6, 9, 10, 11]) il39l0)) <|
  .seq (.ops ([
  ⟨some 104, none, none, .objs [], .fa 0 (.v 3)⟩,
  ⟨some 105, none, none, .objs [], .ld false 1 (.v 104)⟩,
  ⟨some 106, none, none, .objs [], .fa 1 (.v 3)⟩,
  ⟨some 107, none, none, .objs [], .ld false 1 (.v 106)⟩,
  ⟨some 108, none, none, .objs [], .mv (.v 9)⟩,
  ⟨some 109, none, none, .objs [], .mv (.v 2)⟩,
  ⟨some 110, none, none, .objs [], .mv (.v 10)⟩,
  ⟨some 111, none, none, .objs [], .bd [(.sc (.int .i64 0)), (.sc (.int .i64 0)), (.sc (.bool false)), (.sc (.int .i64 0)), (.sc (.int .i64 0)), (.sc (.int .u64 0))] [(0, 1, (.v 105)), (1, 1, (.v 107)), (3, 1, (.v 108)), (4, 1, (.v 109)), (5, 1, (.v 110))]⟩,
  ⟨none, none, none, .objs [], .st 6 (.v 6) (.v 111)⟩,
  ⟨some 7, none, none, .objs [], .mv (.c (.sc (.bool true)))⟩])) <|
  .ret

theorem il39_eq : cFn Try.prog pol 39 = some ⟨112, il39c, [(6, some (true, 6)), (7, none)]⟩ := by kernel_rfl

noncomputable def il40l0b : C :=
  .seq (.ops ([
  ⟨some 14, none, none, .objs [], .bin .lss false (.v 13) (.v 12)⟩])) <|
  .seq (.cond (.v 14) (.nop) (.exit 0)) <|
  .seq (.block 1 (.seq (.ops ([
    ⟨some 15, none, none, .objs [], .mv (.v 13)⟩,
    ⟨some 5, none, none, .objs [], .mv (.v 15)⟩])) <|
    .seq (.opsD [] ([
    ⟨some 16, none, none, .objs [], .mv (.v 0)⟩,
    ⟨some 17, none, none, .objs [], .mv (.v 5)⟩,
    ⟨some 18, none, none, .objs [], .iaS 2 (.v 16) (.v 17)⟩,
    ⟨some 19, none, none, .objs [(.v 18)], .ld true 2 (.v 18)⟩,
    ⟨some 20, none, none, .objs [], .mv (.v 1)⟩,
    ⟨some 21, none, none, .objs [], .mv (.v 5)⟩,
    ⟨some 22, none, none, .objs [], .iaS 2 (.v 20) (.v 21)⟩,
    ⟨some 23, none, none, .objs [(.v 22)], .ld true 2 (.v 22)⟩,
    ⟨some 24, none, none, .objs [], .raw (opOf Try.prog 40 6 8)⟩])) <|
    .cond (.v 24) (.seq (.ops ([
      ⟨some 4, none, none, .objs [], .mv (.c (.sc (.bool false)))⟩])) <|
      .ret) (.nop))) <|
  .ops ([
  ⟨some 25, none, none, .objs [], .bin .add false (.v 13) (.c (.sc (.int .i64 1)))⟩] ++ mkL [0, 1, 12, 25] ([
  ⟨some 13, none, none, .objs [], .mv (.v 25)⟩]))
noncomputable def il40l0 : C := il40l0b
theorem il40l0_go {P : Program} {pol : Pol} {K : Oracle} {I : Inl} {n : Nat} {f : FuncId} {R : Xit → FEnv → Heap → Prop} {e : FEnv} {h : Heap} : wc P pol K I n f il40l0 R e h = wc P pol K I n f il40l0b R e h := (fun x => x) rfl

/-- slices.Equal[[]isochron/api.Counter,isochron/api.Counter] -/
noncomputable def il40c : C :=
  .seq (.ops ([
  ⟨some 4, none, none, .objs [], .mv (.c (.sc (.bool false)))⟩])) <|
  .seq (.seq (.ops ([
  ⟨some 6, none, none, .objs [], .mv (.v 0)⟩,
  ⟨some 7, none, none, .objs [], .lenS (.v 6)⟩,
  ⟨some 8, none, none, .objs [], .mv (.v 1)⟩,
  ⟨some 9, none, none, .objs [], .lenS (.v 8)⟩,
  ⟨some 10, none, none, .objs [], .bin .neq false (.v 7) (.v 9)⟩])) <|
  .cond (.v 10) (.seq (.ops ([
    ⟨some 4, none, none, .objs [], .mv (.c (.sc (.bool false)))⟩])) <|
    .ret) (.nop)) <|
  .seq (.seq (.ops ([
  ⟨some 11, none, none, .objs [], .mv (.v 0)⟩,
  ⟨some 12, none, none, .objs [], .lenS (.v 11)⟩,
  ⟨some 13, none, none, .objs [], .mv (.c (.sc (.int .i64 0)))⟩])) <|
  .block 0 (.loop (some [0, 1, 12, 13]) il40l0)) <|
  .seq (.ops ([
  ⟨some 4, none, none, .objs [], .mv (.c (.sc (.bool true)))⟩])) <|
  .ret

theorem il40_eq : cFn Try.prog pol 40 = some ⟨26, il40c, [(4, none)]⟩ := by kernel_rfl
theorem raw40_6_8 {e : FEnv} {h : Heap} : iStep Try.prog pol 40 e h (.raw (opOf Try.prog 40 6 8)) = vOf h (binE Try.prog true 50 (.tmp 19) (.tmp 23) (Src.get e (.v 19)) (Src.get e (.v 23))) := raw_neq (x := (.tmp 19)) (y := (.tmp 23)) (s := 50) (by kernel_rfl)

/-- isochron/seq.number -/
noncomputable def il41c : C :=
  .seq (.ops ([
  ⟨some 2, none, none, .objs [], .mv (.c (.sc (.bool false)))⟩])) <|
  .seq (.ops ([
  ⟨some 3, none, none, .objs [], .mv (.v 0)⟩,
  ⟨some 4, none, none, .objs [], .bin .geq false (.v 3) (.c (.sc (.int .i64 0)))⟩,
  ⟨some 5, none, none, .objs [], .mv (.v 4)⟩,
  ⟨some 6, some (5, true), none, .objs [], .mv (.v 0)⟩,
  ⟨some 7, some (5, true), none, .objs [], .bin .lss false (.v 6) (.c (.sc (.int .i64 65536)))⟩,
  ⟨some 8, none, none, .objs [], .pk (.v 5) (.v 7) (.c (.sc (.bool false)))⟩,
  ⟨some 2, none, none, .objs [], .mv (.v 8)⟩])) <|
  .ret

theorem il41_eq : cFn Try.prog pol 41 = some ⟨9, il41c, [(2, none)]⟩ := by kernel_rfl

/-- isochron/seq.wrap -/
noncomputable def il42c : C :=
  .seq (.ops ([
  ⟨some 2, none, none, .objs [], .mv (.c (.sc (.int .i64 0)))⟩])) <|
  .seq (.ops ([
  ⟨some 3, none, none, .objs [], .mv (.v 0)⟩,
  ⟨some 4, none, none, .objs [], .bin .rem false (.v 3) (.c (.sc (.int .i64 65536)))⟩,
  ⟨some 0, none, none, .objs [], .mv (.v 4)⟩])) <|
  .seq (.seq (.ops ([
  ⟨some 5, none, none, .objs [], .mv (.v 0)⟩,
  ⟨some 6, none, none, .objs [], .bin .lss false (.v 5) (.c (.sc (.int .i64 0)))⟩])) <|
  .cond (.v 6) (.ops ([
    ⟨some 7, none, none, .objs [], .mv (.v 0)⟩,
    ⟨some 8, none, none, .objs [], .bin .add false (.v 7) (.c (.sc (.int .i64 65536)))⟩,
    ⟨some 0, none, none, .objs [], .mv (.v 8)⟩])) (.nop)) <|
  .seq (.ops ([
  ⟨some 9, none, none, .objs [], .mv (.v 0)⟩,
  ⟨some 2, none, none, .objs [], .mv (.v 9)⟩])) <|
  .ret

theorem il42_eq : cFn Try.prog pol 42 = some ⟨10, il42c, [(2, none)]⟩ := by kernel_rfl

/-- isochron/seq.streamId -/
noncomputable def il43c : C :=
  .seq (.ops ([
  ⟨some 2, none, none, .objs [], .mv (.c (.sc (.bool false)))⟩])) <|
  .seq (.ops ([
  ⟨some 3, none, none, .objs [], .mv (.v 0)⟩,
  ⟨some 4, none, none, .objs [], .bin .geq false (.v 3) (.c (.sc (.int .i64 1)))⟩,
  ⟨some 5, none, none, .objs [], .mv (.v 4)⟩,
  ⟨some 6, some (5, true), none, .objs [], .mv (.v 0)⟩,
  ⟨some 7, some (5, true), none, .objs [], .bin .leq false (.v 6) (.c (.sc (.int .i64 4095)))⟩,
  ⟨some 8, none, none, .objs [], .pk (.v 5) (.v 7) (.c (.sc (.bool false)))⟩,
  ⟨some 2, none, none, .objs [], .mv (.v 8)⟩])) <|
  .ret

theorem il43_eq : cFn Try.prog pol 43 = some ⟨9, il43c, [(2, none)]⟩ := by kernel_rfl

/-- isochron/seq.copies -/
noncomputable def il44c : C :=
  .seq (.ops ([
  ⟨some 2, none, none, .objs [], .bx false (.v 0)⟩,
  ⟨some 3, none, none, .objs [], .bx false (.v 1)⟩,
  ⟨some 4, none, none, .objs [], .mv (.c (.sc .nilFunc))⟩])) <|
  .seq (.ops ([
  ⟨some 5, none, none, .objs [], .fn 54 [] [(.v 3), (.v 2)]⟩,
  ⟨some 4, none, none, .objs [], .mv (.v 5)⟩])) <|
  .ret

theorem il44_eq : cFn Try.prog pol 44 = some ⟨6, il44c, [(4, none)]⟩ := by kernel_rfl

noncomputable def il45l0b : C :=
  .seq (.ops ([
  ⟨some 10, none, none, .objs [], .bin .lss false (.v 9) (.v 8)⟩])) <|
  .seq (.cond (.v 10) (.nop) (.exit 0)) <|
  .seq (.block 1 (.seq (.ops ([
    ⟨some 11, none, none, .objs [], .mv (.v 9)⟩,
    ⟨some 12, none, none, .objs [], .iaS 2 (.v 7) (.v 9)⟩,
    ⟨some 13, none, none, .objs [], .ld true 2 (.v 12)⟩,
    ⟨some 6, none, none, .objs [], .nw 2 (.agg [(.sc (.int .i64 0)), (.sc (.int .i64 0))])⟩,
    ⟨some 5, none, none, .objs [], .mv (.v 11)⟩,
    ⟨none, none, none, .objs [], .st 2 (.v 6) (.v 13)⟩])) <|
    .seq (.ops ([
    ⟨some 14, none, none, .objs [], .mv (.v 1)⟩,
    ⟨some 15, none, none, .objs [], .ld true 2 (.v 6)⟩,
    ⟨some 16, none, none, .objs [], .call (.v 14) [(.v 15)]⟩])) <|
    .cond (.v 16) (.seq (.ops ([
      ⟨some 17, none, none, .objs [], .mv (.v 5)⟩,
      ⟨some 4, none, none, .objs [], .mv (.v 17)⟩])) <|
      .ret) (.nop))) <|
  .ops ([
  ⟨some 18, none, none, .objs [], .bin .add false (.v 9) (.c (.sc (.int .i64 1)))⟩,
  ⟨some 9, none, none, .objs [], .mv (.v 18)⟩])
noncomputable def il45l0 : C := il45l0b
theorem il45l0_go {P : Program} {pol : Pol} {K : Oracle} {I : Inl} {n : Nat} {f : FuncId} {R : Xit → FEnv → Heap → Prop} {e : FEnv} {h : Heap} : wc P pol K I n f il45l0 R e h = wc P pol K I n f il45l0b R e h := (fun x => x) rfl

/-- isochron/seq.find[isochron/api.Counter] -/
noncomputable def il45c : C :=
  .seq (.ops ([
  ⟨some 4, none, none, .objs [], .mv (.c (.sc (.int .i64 0)))⟩])) <|
  .seq (.seq (.ops ([
  ⟨some 7, none, none, .objs [], .mv (.v 0)⟩,
  ⟨some 8, none, none, .objs [], .lenS (.v 7)⟩,
  ⟨some 9, none, none, .objs [], .mv (.c (.sc (.int .i64 0)))⟩])) <|
  .block 0 (.loop (some [0, 1, 7, 8, 9]) il45l0)) <|
  .seq (.ops ([
  ⟨some 19, none, none, .objs [], .mv (.v 0)⟩,
  ⟨some 20, none, none, .objs [], .lenS (.v 19)⟩,
  ⟨some 4, none, none, .objs [], .mv (.v 20)⟩])) <|
  .ret

theorem il45_eq : cFn Try.prog pol 45 = some ⟨21, il45c, [(4, none)]⟩ := by kernel_rfl

/-- isochron/seq.Next$1 -/
noncomputable def il46c : C :=
  .seq (.ops ([
  ⟨some 2, none, none, .objs [], .bx false (.v 0)⟩,
  ⟨some 3, none, none, .objs [], .mv (.c (.sc (.bool false)))⟩])) <|
  .seq (.ops ([
  ⟨some 4, none, none, .objs [], .fa 0 (.v 2)⟩,
  ⟨some 5, none, none, .objs [], .ld false 1 (.v 4)⟩,
  ⟨some 6, none, none, .objs [], .ld false 1 (.v 1)⟩,
  ⟨some 7, none, none, .objs [], .bin .geq false (.v 5) (.v 6)⟩,
  ⟨some 3, none, none, .objs [], .mv (.v 7)⟩])) <|
  .ret

theorem il46_eq : cFn Try.prog pol 46 = some ⟨8, il46c, [(3, none)]⟩ := by kernel_rfl

noncomputable def il47l0b : C :=
  .seq (.ops ([
  ⟨some 15, none, none, .objs [], .bin .lss false (.v 14) (.v 13)⟩])) <|
  .seq (.cond (.v 15) (.nop) (.exit 0)) <|
  .seq (.block 1 (.seq (.ops ([
    ⟨some 16, none, none, .objs [], .iaS 1 (.v 12) (.v 14)⟩,
    ⟨some 17, none, none, .objs [], .ld false 1 (.v 16)⟩,
    ⟨some 8, none, none, .objs [], .mv (.v 17)⟩])) <|
    .seq (.ops ([
    ⟨some 19, none, none, .objs [], .ld true 6 (.v 2)⟩,
    ⟨some 20, none, none, .objs [], .mv (.v 8)⟩,
    ⟨some 21, none, none, .objs [], .call (.c (.fn (.func 38) [] [])) [(.v 19), (.v 20), (.c (.sc (.int .i64 0)))]⟩,
    ⟨some 18, none, none, .objs [], .mv (.v 21)⟩,
    ⟨some 22, none, none, .objs [], .ex (.v 18) 0⟩,
    ⟨some 23, none, none, .objs [], .ex (.v 18) 1⟩,
    ⟨some 24, none, none, .objs [], .ex (.v 18) 2⟩,
    ⟨some 9, none, none, .objs [], .nw 6 (.agg [(.sc (.int .i64 0)), (.sc (.int .i64 0)), (.sc (.bool false)), (.sc (.int .i64 0)), (.sc (.int .i64 0)), (.sc (.int .u64 0))])⟩,
    ⟨none, none, none, .objs [], .st 6 (.v 9) (.v 22)⟩,
    ⟨some 10, none, none, .objs [], .mv (.v 23)⟩] ++ mkL [2, 4, 6, 9, 10, 12, 13, 14, 24] ([
    ⟨some 11, none, none, .objs [], .mv (.v 24)⟩]))) <|
    .seq (.seq (.ops ([
    ⟨some 25, none, none, .objs [], .mv (.v 11)⟩,
    ⟨some 26, none, none, .objs [], .bin .neq false (.v 25) (.c (.sc (.int .i64 0)))⟩])) <|
    .cond (.v 26) (.seq (.ops ([
      ⟨some 27, none, none, .objs [], .bd [(.sc (.int .i64 0)), (.sc (.int .i64 0)), (.sc (.bool false)), (.sc (.int .i64 0)), (.sc (.int .i64 0)), (.sc (.int .u64 0))] []⟩,
      ⟨none, none, none, .objs [], .st 6 (.v 4) (.v 27)⟩,
      ⟨some 5, none, none, .objs [], .mv (.c (.sc (.slice none 0 0)))⟩])) <|
      .ret) (.nop)) <|
    .opsD [(0, 3), (0, 4)] ([
    ⟨some 28, none, none, .objs [(.v 9)], .ld true 6 (.v 9)⟩,
    ⟨some 29, none, none, .objs [], .mv (.v 6)⟩,
    ⟨some 30, none, none, .objs [], .mv (.v 10)⟩,
    ⟨some 31, none, none, .objs [], .bs false 1 (.sc (.bool false)) 1 [(0, (.v 30))]⟩,
    ⟨some 32, none, none, .objs [(.v 29), (.v 31)], .app 1 1 (.v 29) (.v 31)⟩,
    ⟨none, none, none, .objs [(.v 2)], .st 6 (.v 2) (.v 28)⟩,
    ⟨some 6, none, none, .objs [], .gmv 1 (.v 32)⟩]))) <|
  .ops ([
  ⟨some 33, none, none, .objs [], .bin .add false (.v 14) (.c (.sc (.int .i64 1)))⟩] ++ mkL [2, 4, 6, 12, 13, 33] ([
  ⟨some 14, none, none, .objs [], .mv (.v 33)⟩]))
noncomputable def il47l0 : C := il47l0b
theorem il47l0_go {P : Program} {pol : Pol} {K : Oracle} {I : Inl} {n : Nat} {f : FuncId} {R : Xit → FEnv → Heap → Prop} {e : FEnv} {h : Heap} : wc P pol K I n f il47l0 R e h = wc P pol K I n f il47l0b R e h := (fun x => x) rfl

/-- isochron/isochronlaw40.after -/
noncomputable def il47c : C :=
  .seq (.ops ([
  ⟨some 2, none, none, .objs [], .bx true (.v 0)⟩,
  ⟨some 4, none, none, .objs [], .nw 6 (.agg [(.sc (.int .i64 0)), (.sc (.int .i64 0)), (.sc (.bool false)), (.sc (.int .i64 0)), (.sc (.int .i64 0)), (.sc (.int .u64 0))])⟩,
  ⟨some 5, none, none, .objs [], .mv (.c (.sc (.slice none 0 0)))⟩])) <|
  .seq (.ops ([
  ⟨some 6, none, none, .objs [], .gmv 1 (.c (.sc (.slice none 0 0)))⟩])) <|
  .seq (.seq (.ops ([
  ⟨some 12, none, none, .objs [], .mv (.v 1)⟩,
  ⟨some 13, none, none, .objs [], .lenS (.v 12)⟩,
  ⟨some 14, none, none, .objs [], .mv (.c (.sc (.int .i64 0)))⟩])) <|
  .block 0 (.loop (some [2, 4, 6, 12, 13, 14]) il47l0)) <|
  .seq (.ops ([
  ⟨some 34, none, none, .objs [], .ld true 6 (.v 2)⟩,
  ⟨some 35, none, none, .objs [], .mv (.v 6)⟩,
  ⟨none, none, none, .objs [], .st 6 (.v 4) (.v 34)⟩,
  ⟨some 5, none, none, .objs [], .mv (.v 35)⟩])) <|
  .ret

theorem il47_eq : cFn Try.prog pol 47 = some ⟨36, il47c, [(4, some (true, 6)), (5, none)]⟩ := by kernel_rfl

noncomputable def il48l0b : C :=
  .seq (.ops ([
  ⟨some 14, none, none, .objs [], .bin .lss false (.v 13) (.v 12)⟩])) <|
  .seq (.cond (.v 14) (.nop) (.exit 0)) <|
  .seq (.block 1 (.seq (.ops ([
    ⟨some 15, none, none, .objs [], .mv (.v 13)⟩,
    ⟨some 5, none, none, .objs [], .mv (.v 15)⟩])) <|
    .seq (.opsD [] ([
    ⟨some 16, none, none, .objs [], .mv (.v 0)⟩,
    ⟨some 17, none, none, .objs [], .mv (.v 5)⟩,
    ⟨some 18, none, none, .objs [], .iaS 1 (.v 16) (.v 17)⟩,
    ⟨some 19, none, none, .objs [(.v 18)], .ld false 1 (.v 18)⟩,
    ⟨some 20, none, none, .objs [], .mv (.v 1)⟩,
    ⟨some 21, none, none, .objs [], .mv (.v 5)⟩,
    ⟨some 22, none, none, .objs [], .iaS 1 (.v 20) (.v 21)⟩,
    ⟨some 23, none, none, .objs [(.v 22)], .ld false 1 (.v 22)⟩,
    ⟨some 24, none, none, .objs [], .bin .neq true (.v 19) (.v 23)⟩])) <|
    .cond (.v 24) (.seq (.ops ([
      ⟨some 4, none, none, .objs [], .mv (.c (.sc (.bool false)))⟩])) <|
      .ret) (.nop))) <|
  .ops ([
  ⟨some 25, none, none, .objs [], .bin .add false (.v 13) (.c (.sc (.int .i64 1)))⟩] ++ mkL [0, 1, 12, 25] ([
  ⟨some 13, none, none, .objs [], .mv (.v 25)⟩]))
noncomputable def il48l0 : C := il48l0b
theorem il48l0_go {P : Program} {pol : Pol} {K : Oracle} {I : Inl} {n : Nat} {f : FuncId} {R : Xit → FEnv → Heap → Prop} {e : FEnv} {h : Heap} : wc P pol K I n f il48l0 R e h = wc P pol K I n f il48l0b R e h := (fun x => x) rfl

/-- slices.Equal[[]bool,bool] -/
noncomputable def il48c : C :=
  .seq (.ops ([
  ⟨some 4, none, none, .objs [], .mv (.c (.sc (.bool false)))⟩])) <|
  .seq (.seq (.ops ([
  ⟨some 6, none, none, .objs [], .mv (.v 0)⟩,
  ⟨some 7, none, none, .objs [], .lenS (.v 6)⟩,
  ⟨some 8, none, none, .objs [], .mv (.v 1)⟩,
  ⟨some 9, none, none, .objs [], .lenS (.v 8)⟩,
  ⟨some 10, none, none, .objs [], .bin .neq false (.v 7) (.v 9)⟩])) <|
  .cond (.v 10) (.seq (.ops ([
    ⟨some 4, none, none, .objs [], .mv (.c (.sc (.bool false)))⟩])) <|
    .ret) (.nop)) <|
  .seq (.seq (.ops ([
  ⟨some 11, none, none, .objs [], .mv (.v 0)⟩,
  ⟨some 12, none, none, .objs [], .lenS (.v 11)⟩,
  ⟨some 13, none, none, .objs [], .mv (.c (.sc (.int .i64 0)))⟩])) <|
  .block 0 (.loop (some [0, 1, 12, 13]) il48l0)) <|
  .seq (.ops ([
  ⟨some 4, none, none, .objs [], .mv (.c (.sc (.bool true)))⟩])) <|
  .ret

theorem il48_eq : cFn Try.prog pol 48 = some ⟨26, il48c, [(4, none)]⟩ := by kernel_rfl

noncomputable def il49l0b : C :=
  .seq (.seq (.ops ([
  ⟨some 6, none, none, .objs [], .mv (.v 5)⟩,
  ⟨some 7, none, none, .objs [], .mv (.v 1)⟩,
  ⟨some 8, none, none, .objs [], .bin .lss false (.v 6) (.v 7)⟩])) <|
  .cond (.v 8) (.nop) (.exit 0)) <|
  .seq (.block 1 (.ops ([
    ⟨some 11, none, none, .objs [], .mv (.v 0)⟩,
    ⟨some 12, none, none, .objs [], .bin .quo false (.v 11) (.c (.sc (.int .u64 2)))⟩,
    ⟨some 0, none, none, .objs [], .mv (.v 12)⟩]))) <|
  .ops ([
  ⟨some 9, none, none, .objs [], .mv (.v 5)⟩,
  ⟨some 10, none, none, .objs [], .bin .add false (.v 9) (.c (.sc (.int .i64 1)))⟩,
  ⟨some 5, none, none, .objs [], .mv (.v 10)⟩])
noncomputable def il49l0 : C := il49l0b
theorem il49l0_go {P : Program} {pol : Pol} {K : Oracle} {I : Inl} {n : Nat} {f : FuncId} {R : Xit → FEnv → Heap → Prop} {e : FEnv} {h : Heap} : wc P pol K I n f il49l0 R e h = wc P pol K I n f il49l0b R e h := (fun x => x) rfl

/-- isochron/isochronref40.bit -/
noncomputable def il49c : C :=
  .seq (.ops ([
  ⟨some 4, none, none, .objs [], .mv (.c (.sc (.bool false)))⟩])) <|
  .seq (.seq (.ops ([
  ⟨some 5, none, none, .objs [], .mv (.c (.sc (.int .i64 0)))⟩])) <|
  .block 0 (.loop (some [0, 1, 5]) il49l0)) <|
  .seq (.ops ([
  ⟨some 13, none, none, .objs [], .mv (.v 0)⟩,
  ⟨some 14, none, none, .objs [], .bin .rem false (.v 13) (.c (.sc (.int .u64 2)))⟩,
  ⟨some 15, none, none, .objs [], .bin .eql false (.v 14) (.c (.sc (.int .u64 1)))⟩,
  ⟨some 4, none, none, .objs [], .mv (.v 15)⟩])) <|
  .ret

theorem il49_eq : cFn Try.prog pol 49 = some ⟨16, il49c, [(4, none)]⟩ := by kernel_rfl

/-- isochron/recover.limits -/
noncomputable def il50c : C :=
  .seq (.ops ([
  ⟨some 4, none, none, .objs [], .mv (.c (.sc (.bool false)))⟩])) <|
  .seq (.ops ([
  ⟨some 5, none, none, .objs [], .mv (.v 0)⟩,
  ⟨some 6, none, none, .objs [], .bin .geq false (.v 5) (.c (.sc (.int .i64 1)))⟩,
  ⟨some 7, none, none, .objs [], .mv (.v 6)⟩,
  ⟨some 8, some (7, true), none, .objs [], .mv (.v 0)⟩,
  ⟨some 9, some (7, true), none, .objs [], .bin .leq false (.v 8) (.c (.sc (.int .i64 64)))⟩,
  ⟨some 10, none, none, .objs [], .pk (.v 7) (.v 9) (.c (.sc (.bool false)))⟩,
  ⟨some 11, none, none, .objs [], .mv (.v 10)⟩,
  ⟨some 12, some (11, true), none, .objs [], .mv (.v 1)⟩,
  ⟨some 13, some (11, true), none, .objs [], .bin .geq false (.v 12) (.c (.sc (.int .i64 1)))⟩,
  ⟨some 14, none, none, .objs [], .pk (.v 11) (.v 13) (.c (.sc (.bool false)))⟩,
  ⟨some 15, none, none, .objs [], .mv (.v 14)⟩,
  ⟨some 16, some (15, true), none, .objs [], .mv (.v 1)⟩,
  ⟨some 17, some (15, true), none, .objs [], .bin .leq false (.v 16) (.c (.sc (.int .i64 1099511627776)))⟩] ++ mkL [15, 17] ([
  ⟨some 18, none, none, .objs [], .pk (.v 15) (.v 17) (.c (.sc (.bool false)))⟩,
  ⟨some 4, none, none, .objs [], .mv (.v 18)⟩]))) <|
  .ret

theorem il50_eq : cFn Try.prog pol 50 = some ⟨19, il50c, [(4, none)]⟩ := by kernel_rfl

/-- (isochron/recover.window).history -/
noncomputable def il51c : C :=
  .seq (.ops ([
  ⟨some 1, none, none, .objs [], .bx false (.v 0)⟩,
  ⟨some 2, none, none, .objs [], .mv (.c (.sc (.int .u64 0)))⟩])) <|
  .seq (.ops ([
  ⟨some 3, none, none, .objs [], .fa 0 (.v 1)⟩,
  ⟨some 4, none, none, .objs [], .fa 0 (.v 3)⟩,
  ⟨some 5, none, none, .objs [], .ld false 1 (.v 4)⟩,
  ⟨some 6, none, none, .objs [], .cv .u64 (.v 5)⟩,
  ⟨some 7, none, none, .objs [], .bin .shl false (.c (.sc (.int .u64 1))) (.v 6)⟩,
  ⟨some 8, none, none, .objs [], .bin .sub false (.v 7) (.c (.sc (.int .u64 1)))⟩,
  ⟨some 2, none, none, .objs [], .mv (.v 8)⟩])) <|
  .ret

theorem il51_eq : cFn Try.prog pol 51 = some ⟨9, il51c, [(2, none)]⟩ := by kernel_rfl

noncomputable def il52l0b : C :=
  .seq (.seq (.ops ([
  ⟨some 10, none, none, .objs [], .mv (.v 5)⟩,
  ⟨some 11, none, none, .objs [], .bin .leq false (.v 10) (.c (.sc (.int .i64 4)))⟩])) <|
  .cond (.v 11) (.nop) (.exit 0)) <|
  .seq (.block 1 (.seq (.ops ([
    ⟨some 15, none, none, .objs [], .mv (.v 4)⟩,
    ⟨some 16, none, none, .objs [], .mv (.v 5)⟩,
    ⟨some 17, none, none, .objs [], .raw (opOf Try.prog 52 5 2)⟩,
    ⟨some 18, none, none, .objs [], .ld true 8 (.v 1)⟩,
    ⟨some 19, none, none, .objs [], .call (.v 17) [(.v 18)]⟩,
    ⟨some 14, none, none, .objs [], .mv (.v 19)⟩,
    ⟨some 20, none, none, .objs [], .ex (.v 14) 0⟩,
    ⟨some 21, none, none, .objs [], .ex (.v 14) 1⟩,
    ⟨some 6, none, none, .objs [], .nw 8 (.agg [(.sc (.int .i64 0)), (.sc (.int .i64 0)), (.sc (.bool false)), (.sc (.int .i64 0)), (.sc (.int .i64 0)), (.sc (.int .u64 0)), (.sc (.int .i64 0)), (.sc (.int .i64 0))])⟩,
    ⟨none, none, none, .objs [], .st 8 (.v 6) (.v 20)⟩,
    ⟨some 7, none, none, .objs [], .mv (.v 21)⟩])) <|
    .seq (.ops ([
    ⟨some 22, none, none, .objs [], .mv (.v 7)⟩] ++ mkL [1, 2, 4, 5, 6, 7, 22] ([
    ⟨some 23, none, none, .objs [], .bin .neq false (.v 22) (.c (.sc (.int .i64 0)))⟩]))) <|
    .cond (.v 23) (.seq (.ops ([
      ⟨some 24, none, none, .objs [], .ld true 8 (.v 6)⟩,
      ⟨some 25, none, none, .objs [], .mv (.v 7)⟩,
      ⟨none, none, none, .objs [], .st 8 (.v 2) (.v 24)⟩,
      ⟨some 3, none, none, .objs [], .mv (.v 25)⟩])) <|
      .ret) (.nop))) <|
  .ops ([
  ⟨some 12, none, none, .objs [], .mv (.v 5)⟩,
  ⟨some 13, none, none, .objs [], .bin .add false (.v 12) (.c (.sc (.int .i64 1)))⟩,
  ⟨some 5, none, none, .objs [], .mv (.v 13)⟩])
noncomputable def il52l0 : C := il52l0b
theorem il52l0_go {P : Program} {pol : Pol} {K : Oracle} {I : Inl} {n : Nat} {f : FuncId} {R : Xit → FEnv → Heap → Prop} {e : FEnv} {h : Heap} : wc P pol K I n f il52l0 R e h = wc P pol K I n f il52l0b R e h := (fun x => x) rfl

/-- (isochron/recover.window).decide -/
noncomputable def il52c : C :=
  .seq (.ops ([
  ⟨some 1, none, none, .objs [], .bx false (.v 0)⟩,
  ⟨some 2, none, none, .objs [], .nw 8 (.agg [(.sc (.int .i64 0)), (.sc (.int .i64 0)), (.sc (.bool false)), (.sc (.int .i64 0)), (.sc (.int .i64 0)), (.sc (.int .u64 0)), (.sc (.int .i64 0)), (.sc (.int .i64 0))])⟩,
  ⟨some 3, none, none, .objs [], .mv (.c (.sc (.int .i64 0)))⟩])) <|
  .seq (.ops ([
  ⟨some 8, none, none, .objs [], .raw (opOf Try.prog 52 1 0)⟩,
  ⟨none, none, none, .objs [], .raw (opOf Try.prog 52 1 1)⟩,
  ⟨none, none, none, .objs [], .raw (opOf Try.prog 52 1 2)⟩,
  ⟨none, none, none, .objs [], .raw (opOf Try.prog 52 1 3)⟩,
  ⟨none, none, none, .objs [], .raw (opOf Try.prog 52 1 4)⟩,
  ⟨some 9, none, none, .objs [], .mv (.v 8)⟩,
  ⟨some 4, none, none, .objs [], .mv (.v 9)⟩])) <|
  .seq (.seq (.ops ([
  ⟨some 5, none, none, .objs [], .mv (.c (.sc (.int .i64 1)))⟩])) <|
  .block 0 (.loop (some [1, 2, 4, 5]) il52l0)) <|
  .seq (.ops ([
  ⟨some 26, none, none, .objs [], .ld true 8 (.v 1)⟩,
  ⟨none, none, none, .objs [], .st 8 (.v 2) (.v 26)⟩,
  ⟨some 3, none, none, .objs [], .mv (.c (.sc (.int .i64 2)))⟩])) <|
  .ret

theorem il52_eq : cFn Try.prog pol 52 = some ⟨27, il52c, [(2, some (true, 8)), (3, none)]⟩ := by kernel_rfl
theorem raw52_1_0 {e : FEnv} {h : Heap} : iStep Try.prog pol 52 e h (.raw (opOf Try.prog 52 1 0)) = some (.val (.mp h.length) (h ++ [.map []])) := raw_makeMap (t := 119) (by kernel_rfl)
theorem raw52_1_1 {e : FEnv} {h : Heap} : iStep Try.prog pol 52 e h (.raw (opOf Try.prog 52 1 1)) = hOf (upV Try.prog 119 h (Src.get e (.v 8)) (Src.get e (.c (.sc (.int .i64 1)))) (Src.get e (.c (.fn (.func 55) [] [])))) := raw_insert (m := (.tmp 8)) (k := (.const (.int .i64 1))) (x := (.func 55)) (by kernel_rfl)
theorem raw52_1_2 {e : FEnv} {h : Heap} : iStep Try.prog pol 52 e h (.raw (opOf Try.prog 52 1 2)) = hOf (upV Try.prog 119 h (Src.get e (.v 8)) (Src.get e (.c (.sc (.int .i64 2)))) (Src.get e (.c (.fn (.func 56) [] [])))) := raw_insert (m := (.tmp 8)) (k := (.const (.int .i64 2))) (x := (.func 56)) (by kernel_rfl)
theorem raw52_1_3 {e : FEnv} {h : Heap} : iStep Try.prog pol 52 e h (.raw (opOf Try.prog 52 1 3)) = hOf (upV Try.prog 119 h (Src.get e (.v 8)) (Src.get e (.c (.sc (.int .i64 3)))) (Src.get e (.c (.fn (.func 57) [] [])))) := raw_insert (m := (.tmp 8)) (k := (.const (.int .i64 3))) (x := (.func 57)) (by kernel_rfl)
theorem raw52_1_4 {e : FEnv} {h : Heap} : iStep Try.prog pol 52 e h (.raw (opOf Try.prog 52 1 4)) = hOf (upV Try.prog 119 h (Src.get e (.v 8)) (Src.get e (.c (.sc (.int .i64 4)))) (Src.get e (.c (.fn (.func 58) [] [])))) := raw_insert (m := (.tmp 8)) (k := (.const (.int .i64 4))) (x := (.func 58)) (by kernel_rfl)
theorem raw52_5_2 {e : FEnv} {h : Heap} : iStep Try.prog pol 52 e h (.raw (opOf Try.prog 52 5 2)) = vOf h (lkV Try.prog 119 false h (Src.get e (.v 15)) (Src.get e (.v 16))) := raw_lookup (x := (.tmp 15)) (ix := (.tmp 16)) (by kernel_rfl)

/-- isochron/isochronref40.delta -/
noncomputable def il53c : C :=
  .seq (.ops ([
  ⟨some 4, none, none, .objs [], .mv (.c (.sc (.int .i64 0)))⟩])) <|
  .seq (.ops ([
  ⟨some 6, none, none, .objs [], .mv (.v 1)⟩,
  ⟨some 7, none, none, .objs [], .mv (.v 0)⟩,
  ⟨some 8, none, none, .objs [], .ng (.v 7)⟩,
  ⟨some 9, none, none, .objs [], .call (.c (.fn (.func 19) [] [])) [(.v 6), (.v 8)]⟩,
  ⟨some 5, none, none, .objs [], .mv (.v 9)⟩])) <|
  .seq (.seq (.ops ([
  ⟨some 10, none, none, .objs [], .mv (.v 5)⟩,
  ⟨some 11, none, none, .objs [], .bin .geq false (.v 10) (.c (.sc (.int .i64 32768)))⟩])) <|
  .cond (.v 11) (.ops ([
    ⟨some 12, none, none, .objs [], .mv (.v 5)⟩,
    ⟨some 13, none, none, .objs [], .bin .sub false (.v 12) (.c (.sc (.int .i64 65536)))⟩,
    ⟨some 5, none, none, .objs [], .mv (.v 13)⟩])) (.nop)) <|
  .seq (.ops ([
  ⟨some 14, none, none, .objs [], .mv (.v 5)⟩,
  ⟨some 4, none, none, .objs [], .mv (.v 14)⟩])) <|
  .ret

theorem il53_eq : cFn Try.prog pol 53 = some ⟨15, il53c, [(4, none)]⟩ := by kernel_rfl

noncomputable def il54l0b : C :=
  .seq (.ops ([
  ⟨some 9, none, none, .objs [], .bin .lss false (.v 8) (.v 7)⟩])) <|
  .seq (.cond (.v 9) (.nop) (.exit 0)) <|
  .seq (.block 1 (.seq (.ops ([
    ⟨some 10, none, none, .objs [], .iaS 1 (.v 6) (.v 8)⟩,
    ⟨some 11, none, none, .objs [], .ld false 1 (.v 10)⟩,
    ⟨some 5, none, none, .objs [], .mv (.v 11)⟩])) <|
    .seq (.opsD [(1, 3)] ([
    ⟨some 12, none, none, .objs [], .mv (.v 0)⟩,
    ⟨some 13, none, none, .objs [(.v 2)], .ld true 5 (.v 2)⟩,
    ⟨some 14, none, none, .objs [], .mv (.v 5)⟩,
    ⟨some 15, none, none, .objs [(.c (.sc (.slice none 0 0))), (.v 14)], .app 1 8 (.c (.sc (.slice none 0 0))) (.v 14)⟩,
    ⟨some 16, none, none, .objs [], .bd [(.sc (.int .i64 0)), (.sc (.int .i64 0)), (.sc (.int .i64 0)), (.sc (.int .i64 0)), (.sc (.int .i64 0)), (.sc (.slice none 0 0))] [(0, 5, (.v 13)), (5, 1, (.v 15))]⟩,
    ⟨some 17, none, none, .cal (.v 12) [(.v 16)], .call (.v 12) [(.v 16)]⟩,
    ⟨some 18, none, none, .objs [], .nt (.v 17)⟩])) <|
    .cond (.v 18) (.ret) (.nop))) <|
  .ops ([
  ⟨some 19, none, none, .objs [], .bin .add false (.v 8) (.c (.sc (.int .i64 1)))⟩,
  ⟨some 8, none, none, .objs [], .mv (.v 19)⟩])
noncomputable def il54l0 : C := il54l0b
theorem il54l0_go {P : Program} {pol : Pol} {K : Oracle} {I : Inl} {n : Nat} {f : FuncId} {R : Xit → FEnv → Heap → Prop} {e : FEnv} {h : Heap} : wc P pol K I n f il54l0 R e h = wc P pol K I n f il54l0b R e h := (fun x => x) rfl

/-- isochron/seq.copies$1 -/
noncomputable def il54c : C :=
  .seq (.ops ([
  ⟨some 6, none, none, .objs [], .ld false 1 (.v 1)⟩,
  ⟨some 7, none, none, .objs [], .lenS (.v 6)⟩,
  ⟨some 8, none, none, .objs [], .mv (.c (.sc (.int .i64 0)))⟩])) <|
  .block 0 (.loop (some [0, 2, 6, 7, 8]) il54l0)

theorem il54_eq : cFn Try.prog pol 54 = some ⟨20, il54c, []⟩ := by kernel_rfl

/-- (isochron/recover.window).fresh -/
noncomputable def il55c : C :=
  .seq (.ops ([
  ⟨some 1, none, none, .objs [], .bx true (.v 0)⟩,
  ⟨some 2, none, none, .objs [], .nw 8 (.agg [(.sc (.int .i64 0)), (.sc (.int .i64 0)), (.sc (.bool false)), (.sc (.int .i64 0)), (.sc (.int .i64 0)), (.sc (.int .u64 0)), (.sc (.int .i64 0)), (.sc (.int .i64 0))])⟩,
  ⟨some 3, none, none, .objs [], .mv (.c (.sc (.int .i64 0)))⟩])) <|
  .seq (.seq (.ops ([
  ⟨some 4, none, none, .objs [], .fa 0 (.v 1)⟩,
  ⟨some 5, none, none, .objs [], .fa 2 (.v 4)⟩,
  ⟨some 6, none, none, .objs [], .ld false 1 (.v 5)⟩,
  ⟨some 7, none, none, .objs [], .nt (.v 6)⟩,
  ⟨some 8, none, none, .objs [], .mv (.v 7)⟩,
  ⟨some 9, some (8, true), none, .objs [], .fa 7 (.v 1)⟩,
  ⟨some 10, some (8, true), none, .objs [], .ld false 1 (.v 9)⟩,
  ⟨some 11, some (8, true), none, .objs [], .fa 0 (.v 1)⟩,
  ⟨some 12, some (8, true), none, .objs [], .fa 4 (.v 11)⟩,
  ⟨some 13, some (8, true), none, .objs [], .ld false 1 (.v 12)⟩,
  ⟨some 14, some (8, true), none, .objs [], .bin .sub false (.v 10) (.v 13)⟩] ++ mkL [1, 2, 8, 14] ([
  ⟨some 15, some (8, true), none, .objs [], .fa 0 (.v 1)⟩,
  ⟨some 16, some (8, true), none, .objs [], .fa 1 (.v 15)⟩,
  ⟨some 17, some (8, true), none, .objs [], .ld false 1 (.v 16)⟩,
  ⟨some 18, some (8, true), none, .objs [], .bin .leq false (.v 14) (.v 17)⟩,
  ⟨some 19, none, none, .objs [], .pk (.v 8) (.v 18) (.c (.sc (.bool false)))⟩]))) <|
  .cond (.v 19) (.seq (.ops ([
    ⟨some 20, none, none, .objs [], .ld true 8 (.v 1)⟩,
    ⟨none, none, none, .objs [], .st 8 (.v 2) (.v 20)⟩,
    ⟨some 3, none, none, .objs [], .mv (.c (.sc (.int .i64 0)))⟩])) <|
    .ret) (.nop)) <|
  .seq (.ops ([
  ⟨some 21, none, none, .objs [], .fa 6 (.v 1)⟩,
  ⟨some 22, none, none, .objs [], .ld false 1 (.v 21)⟩,
  ⟨some 23, none, none, .objs [], .fa 7 (.v 1)⟩,
  ⟨some 24, none, none, .objs [], .ld false 1 (.v 23)⟩,
  ⟨some 25, none, none, .objs [], .fa 0 (.v 1)⟩,
  ⟨some 26, none, none, .objs [], .fa 2 (.v 25)⟩] ++ mkL [1, 2, 22, 24, 26] ([
  ⟨none, none, none, .objs [], .st 1 (.v 26) (.c (.sc (.bool false)))⟩,
  ⟨some 27, none, none, .objs [], .fa 0 (.v 1)⟩,
  ⟨some 28, none, none, .objs [], .fa 3 (.v 27)⟩,
  ⟨none, none, none, .objs [], .st 1 (.v 28) (.v 22)⟩,
  ⟨some 29, none, none, .objs [], .fa 0 (.v 1)⟩,
  ⟨some 30, none, none, .objs [], .fa 4 (.v 29)⟩,
  ⟨none, none, none, .objs [], .st 1 (.v 30) (.v 24)⟩,
  ⟨some 31, none, none, .objs [], .fa 0 (.v 1)⟩,
  ⟨some 32, none, none, .objs [], .fa 5 (.v 31)⟩,
  ⟨none, none, none, .objs [], .st 1 (.v 32) (.c (.sc (.int .u64 1)))⟩]))) <|
  .seq (.ops ([
  ⟨some 33, none, none, .objs [], .ld true 8 (.v 1)⟩,
  ⟨none, none, none, .objs [], .st 8 (.v 2) (.v 33)⟩,
  ⟨some 3, none, none, .objs [], .mv (.c (.sc (.int .i64 1)))⟩])) <|
  .ret

theorem il55_eq : cFn Try.prog pol 55 = some ⟨34, il55c, [(2, some (true, 8)), (3, none)]⟩ := by kernel_rfl

/-- (isochron/recover.window).far -/
noncomputable def il56c : C :=
  .seq (.ops ([
  ⟨some 1, none, none, .objs [], .bx false (.v 0)⟩,
  ⟨some 2, none, none, .objs [], .nw 8 (.agg [(.sc (.int .i64 0)), (.sc (.int .i64 0)), (.sc (.bool false)), (.sc (.int .i64 0)), (.sc (.int .i64 0)), (.sc (.int .u64 0)), (.sc (.int .i64 0)), (.sc (.int .i64 0))])⟩,
  ⟨some 3, none, none, .objs [], .mv (.c (.sc (.int .i64 0)))⟩])) <|
  .seq (.seq (.ops ([
  ⟨some 5, none, none, .objs [], .ld true 8 (.v 1)⟩,
  ⟨some 6, none, none, .objs [], .call (.c (.fn (.func 59) [] [])) [(.v 5)]⟩,
  ⟨some 4, none, none, .objs [], .mv (.v 6)⟩])) <|
  .seq (.ops ([
  ⟨some 7, none, none, .objs [], .mv (.v 4)⟩,
  ⟨some 8, none, none, .objs [], .fa 0 (.v 1)⟩,
  ⟨some 9, none, none, .objs [], .fa 0 (.v 8)⟩,
  ⟨some 10, none, none, .objs [], .ld false 1 (.v 9)⟩,
  ⟨some 11, none, none, .objs [], .ng (.v 10)⟩,
  ⟨some 12, none, none, .objs [], .bin .gtr false (.v 7) (.v 11)⟩,
  ⟨some 13, none, none, .objs [], .mv (.v 12)⟩,
  ⟨some 14, some (13, true), none, .objs [], .mv (.v 4)⟩] ++ mkL [1, 2, 13, 14] ([
  ⟨some 15, some (13, true), none, .objs [], .fa 0 (.v 1)⟩,
  ⟨some 16, some (13, true), none, .objs [], .fa 0 (.v 15)⟩,
  ⟨some 17, some (13, true), none, .objs [], .ld false 1 (.v 16)⟩,
  ⟨some 18, some (13, true), none, .objs [], .bin .lss false (.v 14) (.v 17)⟩,
  ⟨some 19, none, none, .objs [], .pk (.v 13) (.v 18) (.c (.sc (.bool false)))⟩]))) <|
  .cond (.v 19) (.seq (.ops ([
    ⟨some 20, none, none, .objs [], .ld true 8 (.v 1)⟩,
    ⟨none, none, none, .objs [], .st 8 (.v 2) (.v 20)⟩,
    ⟨some 3, none, none, .objs [], .mv (.c (.sc (.int .i64 0)))⟩])) <|
    .ret) (.nop)) <|
  .seq (.ops ([
  ⟨some 21, none, none, .objs [], .ld true 8 (.v 1)⟩,
  ⟨none, none, none, .objs [], .st 8 (.v 2) (.v 21)⟩,
  ⟨some 3, none, none, .objs [], .mv (.c (.sc (.int .i64 2)))⟩])) <|
  .ret

theorem il56_eq : cFn Try.prog pol 56 = some ⟨22, il56c, [(2, some (true, 8)), (3, none)]⟩ := by kernel_rfl

/-- (isochron/recover.window).past -/
noncomputable def il57c : C :=
  .seq (.ops ([
  ⟨some 1, none, none, .objs [], .bx true (.v 0)⟩,
  ⟨some 2, none, none, .objs [], .nw 8 (.agg [(.sc (.int .i64 0)), (.sc (.int .i64 0)), (.sc (.bool false)), (.sc (.int .i64 0)), (.sc (.int .i64 0)), (.sc (.int .u64 0)), (.sc (.int .i64 0)), (.sc (.int .i64 0))])⟩,
  ⟨some 3, none, none, .objs [], .mv (.c (.sc (.int .i64 0)))⟩])) <|
  .seq (.ops ([
  ⟨some 6, none, none, .objs [], .ld true 8 (.v 1)⟩,
  ⟨some 7, none, none, .objs [], .call (.c (.fn (.func 59) [] [])) [(.v 6)]⟩,
  ⟨some 4, none, none, .objs [], .mv (.v 7)⟩])) <|
  .seq (.seq (.ops ([
  ⟨some 8, none, none, .objs [], .mv (.v 4)⟩,
  ⟨some 9, none, none, .objs [], .bin .gtr false (.v 8) (.c (.sc (.int .i64 0)))⟩])) <|
  .cond (.v 9) (.seq (.ops ([
    ⟨some 10, none, none, .objs [], .ld true 8 (.v 1)⟩,
    ⟨none, none, none, .objs [], .st 8 (.v 2) (.v 10)⟩,
    ⟨some 3, none, none, .objs [], .mv (.c (.sc (.int .i64 0)))⟩])) <|
    .ret) (.nop)) <|
  .seq (.ops ([
  ⟨some 11, none, none, .objs [], .mv (.v 4)⟩,
  ⟨some 12, none, none, .objs [], .ng (.v 11)⟩,
  ⟨some 13, none, none, .objs [], .cv .u64 (.v 12)⟩] ++ mkL [1, 2, 13] ([
  ⟨some 14, none, none, .objs [], .bin .shl false (.c (.sc (.int .u64 1))) (.v 13)⟩,
  ⟨some 5, none, none, .objs [], .mv (.v 14)⟩]))) <|
  .seq (.seq (.ops ([
  ⟨some 15, none, none, .objs [], .fa 0 (.v 1)⟩,
  ⟨some 16, none, none, .objs [], .fa 5 (.v 15)⟩,
  ⟨some 17, none, none, .objs [], .ld false 1 (.v 16)⟩,
  ⟨some 18, none, none, .objs [], .mv (.v 5)⟩,
  ⟨some 19, none, none, .objs [], .bin .and false (.v 17) (.v 18)⟩,
  ⟨some 20, none, none, .objs [], .bin .neq false (.v 19) (.c (.sc (.int .u64 0)))⟩])) <|
  .cond (.v 20) (.seq (.ops ([
    ⟨some 21, none, none, .objs [], .ld true 8 (.v 1)⟩,
    ⟨none, none, none, .objs [], .st 8 (.v 2) (.v 21)⟩,
    ⟨some 3, none, none, .objs [], .mv (.c (.sc (.int .i64 2)))⟩])) <|
    .ret) (.nop)) <|
  .seq (.ops ([
  ⟨some 22, none, none, .objs [], .fa 0 (.v 1)⟩,
  ⟨some 23, none, none, .objs [], .fa 5 (.v 22)⟩,
  ⟨some 24, none, none, .objs [], .ld false 1 (.v 23)⟩] ++ mkL [1, 2, 5, 24] ([
  ⟨some 25, none, none, .objs [], .mv (.v 5)⟩,
  ⟨some 26, none, none, .objs [], .bin .or false (.v 24) (.v 25)⟩,
  ⟨some 27, none, none, .objs [], .fa 0 (.v 1)⟩,
  ⟨some 28, none, none, .objs [], .fa 5 (.v 27)⟩,
  ⟨none, none, none, .objs [], .st 1 (.v 28) (.v 26)⟩]))) <|
  .seq (.ops ([
  ⟨some 29, none, none, .objs [], .fa 7 (.v 1)⟩,
  ⟨some 30, none, none, .objs [], .ld false 1 (.v 29)⟩,
  ⟨some 31, none, none, .objs [], .fa 0 (.v 1)⟩,
  ⟨some 32, none, none, .objs [], .fa 4 (.v 31)⟩,
  ⟨none, none, none, .objs [], .st 1 (.v 32) (.v 30)⟩])) <|
  .seq (.ops ([
  ⟨some 33, none, none, .objs [], .ld true 8 (.v 1)⟩,
  ⟨none, none, none, .objs [], .st 8 (.v 2) (.v 33)⟩,
  ⟨some 3, none, none, .objs [], .mv (.c (.sc (.int .i64 1)))⟩])) <|
  .ret

theorem il57_eq : cFn Try.prog pol 57 = some ⟨34, il57c, [(2, some (true, 8)), (3, none)]⟩ := by kernel_rfl

/-- (isochron/recover.window).ahead -/
noncomputable def il58c : C :=
  .seq (.ops ([
  ⟨some 1, none, none, .objs [], .bx true (.v 0)⟩,
  ⟨some 2, none, none, .objs [], .nw 8 (.agg [(.sc (.int .i64 0)), (.sc (.int .i64 0)), (.sc (.bool false)), (.sc (.int .i64 0)), (.sc (.int .i64 0)), (.sc (.int .u64 0)), (.sc (.int .i64 0)), (.sc (.int .i64 0))])⟩,
  ⟨some 3, none, none, .objs [], .mv (.c (.sc (.int .i64 0)))⟩])) <|
  .seq (.opsD [(2, 4), (4, 8), (2, 9)] ([
  ⟨some 4, none, none, .objs [], .fa 0 (.v 1)⟩,
  ⟨some 5, none, none, .objs [], .fa 5 (.v 4)⟩,
  ⟨some 6, none, none, .objs [(.v 5)], .ld false 1 (.v 5)⟩,
  ⟨some 7, none, none, .objs [(.v 1)], .ld true 8 (.v 1)⟩,
  ⟨some 8, none, none, .cal (.c (.fn (.func 59) [] [])) [(.v 7)], .call (.c (.fn (.func 59) [] [])) [(.v 7)]⟩,
  ⟨some 9, none, none, .objs [], .cv .u64 (.v 8)⟩,
  ⟨some 10, none, none, .objs [], .bin .shl false (.v 6) (.v 9)⟩,
  ⟨some 11, none, none, .objs [], .bin .or false (.v 10) (.c (.sc (.int .u64 1)))⟩,
  ⟨some 12, none, none, .objs [(.v 1)], .ld true 8 (.v 1)⟩,
  ⟨some 13, none, none, .cal (.c (.fn (.func 51) [] [])) [(.v 12)], .call (.c (.fn (.func 51) [] [])) [(.v 12)]⟩,
  ⟨some 14, none, none, .objs [], .bin .and false (.v 11) (.v 13)⟩] ++ mkL [1, 2, 14] ([
  ⟨some 15, none, none, .objs [], .fa 0 (.v 1)⟩,
  ⟨some 16, none, none, .objs [], .fa 5 (.v 15)⟩,
  ⟨none, none, none, .objs [(.v 16)], .st 1 (.v 16) (.v 14)⟩]))) <|
  .seq (.ops ([
  ⟨some 17, none, none, .objs [], .fa 6 (.v 1)⟩,
  ⟨some 18, none, none, .objs [], .ld false 1 (.v 17)⟩,
  ⟨some 19, none, none, .objs [], .fa 7 (.v 1)⟩,
  ⟨some 20, none, none, .objs [], .ld false 1 (.v 19)⟩,
  ⟨some 21, none, none, .objs [], .fa 0 (.v 1)⟩,
  ⟨some 22, none, none, .objs [], .fa 3 (.v 21)⟩,
  ⟨none, none, none, .objs [], .st 1 (.v 22) (.v 18)⟩,
  ⟨some 23, none, none, .objs [], .fa 0 (.v 1)⟩,
  ⟨some 24, none, none, .objs [], .fa 4 (.v 23)⟩,
  ⟨none, none, none, .objs [], .st 1 (.v 24) (.v 20)⟩])) <|
  .seq (.ops ([
  ⟨some 25, none, none, .objs [], .ld true 8 (.v 1)⟩] ++ mkL [2, 25] ([
  ⟨none, none, none, .objs [], .st 8 (.v 2) (.v 25)⟩,
  ⟨some 3, none, none, .objs [], .mv (.c (.sc (.int .i64 1)))⟩]))) <|
  .ret

theorem il58_eq : cFn Try.prog pol 58 = some ⟨26, il58c, [(2, some (true, 8)), (3, none)]⟩ := by kernel_rfl

/-- (isochron/recover.window).distance -/
noncomputable def il59c : C :=
  .seq (.ops ([
  ⟨some 1, none, none, .objs [], .bx false (.v 0)⟩,
  ⟨some 2, none, none, .objs [], .mv (.c (.sc (.int .i64 0)))⟩])) <|
  .seq (.ops ([
  ⟨some 6, none, none, .objs [], .fa 0 (.v 1)⟩,
  ⟨some 7, none, none, .objs [], .fa 3 (.v 6)⟩,
  ⟨some 8, none, none, .objs [], .ld false 1 (.v 7)⟩,
  ⟨some 9, none, none, .objs [], .fa 6 (.v 1)⟩,
  ⟨some 10, none, none, .objs [], .ld false 1 (.v 9)⟩,
  ⟨some 11, none, none, .objs [], .call (.c (.fn (.func 16) [] [])) [(.v 8), (.v 10)]⟩,
  ⟨some 5, none, none, .objs [], .mv (.v 11)⟩,
  ⟨some 12, none, none, .objs [], .ex (.v 5) 0⟩,
  ⟨some 13, none, none, .objs [], .ex (.v 5) 1⟩,
  ⟨some 3, none, none, .objs [], .mv (.v 12)⟩,
  ⟨some 4, none, none, .objs [], .mv (.v 13)⟩])) <|
  .seq (.ops ([
  ⟨some 14, none, none, .objs [], .mv (.v 3)⟩] ++ mkL [14] ([
  ⟨some 2, none, none, .objs [], .mv (.v 14)⟩]))) <|
  .ret

theorem il59_eq : cFn Try.prog pol 59 = some ⟨15, il59c, [(2, none)]⟩ := by kernel_rfl


end Go.Proofs.Ytkamfflnfnjbeaa
