/- Functions of the program, worked out ahead (printed by a program; each is checked against the program by the kernel). -/
import Derived.Test.YtkamfflnfnjbeaaILBase
set_option linter.unusedSimpArgs false
namespace Go.Proofs.Ytkamfflnfnjbeaa
open Go Go.Abs
set_option maxRecDepth 100000
set_option linter.unusedVariables false

theorem eqT31 {a0 b0 : Int} {a1 b1 : Int} {a2 b2 : Int} {a3 b3 : Int} {a4 b4 : Int} : aEq Try.prog 31 (.t (.agg [.sc (.int .i64 a0), .sc (.int .i64 a1), .sc (.int .i64 a2), .sc (.int .i64 a3), .sc (.int .i64 a4)])) (.t (.agg [.sc (.int .i64 b0), .sc (.int .i64 b1), .sc (.int .i64 b2), .sc (.int .i64 b3), .sc (.int .i64 b4)])) = some (decide (a0 = b0 ∧ a1 = b1 ∧ a2 = b2 ∧ a3 = b3 ∧ a4 = b4)) :=
  (show aEq Try.prog 31 (.t (.agg [.sc (.int .i64 a0), .sc (.int .i64 a1), .sc (.int .i64 a2), .sc (.int .i64 a3), .sc (.int .i64 a4)])) (.t (.agg [.sc (.int .i64 b0), .sc (.int .i64 b1), .sc (.int .i64 b2), .sc (.int .i64 b3), .sc (.int .i64 b4)])) = some ((a0 == b0) && ((a1 == b1) && ((a2 == b2) && ((a3 == b3) && ((a4 == b4) && true))))) by kernel_rfl).trans (by congr 1; rw [Bool.eq_iff_iff]; simp [and_assoc])

theorem eqT46 : isSliceT Try.prog 46 = true := by kernel_rfl

theorem eqT50 {a0 b0 : Int} {a1 b1 : Int} : aEq Try.prog 50 (.t (.agg [.sc (.int .i64 a0), .sc (.int .i64 a1)])) (.t (.agg [.sc (.int .i64 b0), .sc (.int .i64 b1)])) = some (decide (a0 = b0 ∧ a1 = b1)) :=
  (show aEq Try.prog 50 (.t (.agg [.sc (.int .i64 a0), .sc (.int .i64 a1)])) (.t (.agg [.sc (.int .i64 b0), .sc (.int .i64 b1)])) = some ((a0 == b0) && ((a1 == b1) && true)) by kernel_rfl).trans (by congr 1; rw [Bool.eq_iff_iff]; simp [and_assoc])

noncomputable def il4l0b : C :=
  .seq (.ops ([
  ⟨some 87, none, none, .objs [], .bin .lss false (.v 86) (.v 85)⟩])) <|
  .seq (.cond (.v 87) (.nop) (.exit 2)) <|
  .seq (.block 3 (.seq (.ops ([
    ⟨some 88, none, none, .objs [], .mv (.v 86)⟩,
    ⟨some 89, none, none, .objs [], .iaS 6 (.v 84) (.v 86)⟩,
    ⟨some 90, none, none, .objs [], .ld true 6 (.v 89)⟩,
    ⟨some 15, none, none, .objs [], .nw 6 (.agg [(.sc (.int .i64 0)), (.sc (.int .i64 0)), (.sc (.int .i64 0)), (.sc (.int .i64 0)), (.sc (.int .i64 0)), (.sc (.slice none 0 0))])⟩,
    ⟨some 14, none, none, .objs [], .mv (.v 88)⟩,
    ⟨none, none, none, .objs [], .st 6 (.v 15) (.v 90)⟩])) <|
    .seq (.opsD [] ([
    ⟨some 91, none, none, .objs [], .fa 0 (.v 15)⟩,
    ⟨some 92, none, none, .objs [(.v 91)], .ld true 5 (.v 91)⟩,
    ⟨some 93, none, none, .objs [(.v 11)], .ld true 5 (.v 11)⟩,
    ⟨some 94, none, none, .objs [], .raw (opOf Try.prog 4 18 3)⟩,
    ⟨some 95, none, none, .objs [], .mv (.v 94)⟩,
    ⟨some 96, some (95, false), none, .objs [], .fa 5 (.v 15)⟩,
    ⟨some 97, some (95, false), none, .objs [(.v 96)], .ld false 1 (.v 96)⟩] ++ mkL [1, 11, 14, 34, 35, 84, 85, 86, 95, 97] ([
    ⟨some 98, some (95, false), none, .objs [], .mv (.v 1)⟩,
    ⟨some 99, some (95, false), none, .objs [], .mv (.v 14)⟩,
    ⟨some 100, some (95, false), none, .objs [], .iaS 1 (.v 98) (.v 99)⟩,
    ⟨some 101, some (95, false), none, .objs [(.v 100)], .ld false 1 (.v 100)⟩,
    ⟨some 102, some (95, false), none, .cal (.c (.fn (.func 22) [] [])) [(.v 97), (.v 101)], .call (.c (.fn (.func 22) [] [])) [(.v 97), (.v 101)]⟩,
    ⟨some 103, some (95, false), none, .objs [], .nt (.v 102)⟩,
    ⟨some 104, none, none, .objs [], .pk (.v 95) (.c (.sc (.bool true))) (.v 103)⟩]))) <|
    .cond (.v 104) (.seq (.ops ([
      ⟨some 8, none, none, .objs [], .mv (.c (.sc (.bool false)))⟩])) <|
      .ret) (.nop))) <|
  .ops ([
  ⟨some 105, none, none, .objs [], .bin .add false (.v 86) (.c (.sc (.int .i64 1)))⟩,
  ⟨some 86, none, none, .objs [], .mv (.v 105)⟩])
noncomputable def il4l0 : C := il4l0b
theorem il4l0_go {P : Program} {pol : Pol} {K : Oracle} {I : Inl} {n : Nat} {f : FuncId} {R : Xit → FEnv → Heap → Prop} {e : FEnv} {h : Heap} : wc P pol K I n f il4l0 R e h = wc P pol K I n f il4l0b R e h := (fun x => x) rfl

noncomputable def il4l1b : C :=
  .seq (.ops ([
  ⟨some 36, none, none, .objs [], .bin .lss false (.v 35) (.c (.sc (.int .i64 2)))⟩])) <|
  .seq (.cond (.v 36) (.nop) (.exit 0)) <|
  .seq (.block 1 (.seq (.ops ([
    ⟨some 37, none, none, .objs [], .ixA true 5 2 5 (.v 34) (.v 35)⟩,
    ⟨some 11, none, none, .objs [], .nw 5 (.agg [(.sc (.int .i64 0)), (.sc (.int .i64 0)), (.sc (.int .i64 0)), (.sc (.int .i64 0)), (.sc (.int .i64 0))])⟩,
    ⟨none, none, none, .objs [], .st 5 (.v 11) (.v 37)⟩])) <|
    .seq (.ops ([
    ⟨some 39, none, none, .objs [], .ld true 5 (.v 11)⟩,
    ⟨some 40, none, none, .objs [], .mv (.v 1)⟩,
    ⟨some 41, none, none, .objs [], .call (.c (.fn (.func 21) [] [])) [(.v 39), (.v 40)]⟩,
    ⟨some 38, none, none, .objs [], .mv (.v 41)⟩,
    ⟨some 42, none, none, .objs [], .ex (.v 38) 0⟩,
    ⟨some 43, none, none, .objs [], .ex (.v 38) 1⟩,
    ⟨some 12, none, none, .objs [], .mv (.v 42)⟩,
    ⟨some 13, none, none, .objs [], .mv (.v 43)⟩])) <|
    .seq (.seq (.ops ([
    ⟨some 44, none, none, .objs [], .fa 0 (.v 11)⟩,
    ⟨some 45, none, none, .objs [], .ld false 1 (.v 44)⟩] ++ mkL [1, 11, 12, 13, 34, 35, 45] ([
    ⟨some 46, none, none, .objs [], .bin .lss false (.v 45) (.c (.sc (.int .i64 1)))⟩,
    ⟨some 47, none, none, .objs [], .mv (.v 46)⟩,
    ⟨some 48, some (47, false), none, .objs [], .fa 0 (.v 11)⟩,
    ⟨some 49, some (47, false), none, .objs [], .ld false 1 (.v 48)⟩,
    ⟨some 50, some (47, false), none, .objs [], .bin .gtr false (.v 49) (.c (.sc (.int .i64 4095)))⟩,
    ⟨some 51, none, none, .objs [], .pk (.v 47) (.c (.sc (.bool true))) (.v 50)⟩,
    ⟨some 52, none, none, .objs [], .mv (.v 51)⟩,
    ⟨some 53, some (52, false), none, .objs [], .fa 1 (.v 11)⟩,
    ⟨some 54, some (52, false), none, .objs [], .ld false 1 (.v 53)⟩,
    ⟨some 55, some (52, false), none, .objs [], .call (.c (.fn (.func 20) [] [])) [(.v 54)]⟩,
    ⟨some 56, some (52, false), none, .objs [], .nt (.v 55)⟩,
    ⟨some 57, none, none, .objs [], .pk (.v 52) (.c (.sc (.bool true))) (.v 56)⟩,
    ⟨some 58, none, none, .objs [], .mv (.v 57)⟩,
    ⟨some 59, some (58, false), none, .objs [], .mv (.v 1)⟩] ++ mkL [1, 11, 12, 13, 34, 35, 58, 59] ([
    ⟨some 60, some (58, false), none, .objs [], .lenS (.v 59)⟩,
    ⟨some 61, some (58, false), none, .objs [], .bin .lss false (.v 60) (.c (.sc (.int .i64 1)))⟩,
    ⟨some 62, none, none, .objs [], .pk (.v 58) (.c (.sc (.bool true))) (.v 61)⟩,
    ⟨some 63, none, none, .objs [], .mv (.v 62)⟩,
    ⟨some 64, some (63, false), none, .objs [], .mv (.v 1)⟩,
    ⟨some 65, some (63, false), none, .objs [], .lenS (.v 64)⟩,
    ⟨some 66, some (63, false), none, .objs [], .bin .gtr false (.v 65) (.c (.sc (.int .i64 2)))⟩,
    ⟨some 67, none, none, .objs [], .pk (.v 63) (.c (.sc (.bool true))) (.v 66)⟩])))) <|
    .cond (.v 67) (.seq (.seq (.ops ([
      ⟨some 68, none, none, .objs [], .mv (.v 13)⟩,
      ⟨some 69, none, none, .objs [], .bin .neq false (.v 68) (.c (.sc (.int .i64 2)))⟩,
      ⟨some 70, none, none, .objs [], .mv (.v 69)⟩,
      ⟨some 71, some (70, false), none, .objs [], .mv (.v 12)⟩,
      ⟨some 72, some (70, false), none, .objs [], .lenS (.v 71)⟩,
      ⟨some 73, some (70, false), none, .objs [], .bin .gtr false (.v 72) (.c (.sc (.int .i64 0)))⟩] ++ mkL [1, 34, 35, 70, 73] ([
      ⟨some 74, none, none, .objs [], .pk (.v 70) (.c (.sc (.bool true))) (.v 73)⟩]))) <|
      .cond (.v 74) (.seq (.ops ([
        ⟨some 8, none, none, .objs [], .mv (.c (.sc (.bool false)))⟩])) <|
        .ret) (.nop)) <|
      .exit 1) (.nop)) <|
    .seq (.seq (.ops ([
    ⟨some 75, none, none, .objs [], .mv (.v 13)⟩,
    ⟨some 76, none, none, .objs [], .bin .neq false (.v 75) (.c (.sc (.int .i64 0)))⟩,
    ⟨some 77, none, none, .objs [], .mv (.v 76)⟩,
    ⟨some 78, some (77, false), none, .objs [], .mv (.v 12)⟩,
    ⟨some 79, some (77, false), none, .objs [], .lenS (.v 78)⟩,
    ⟨some 80, some (77, false), none, .objs [], .mv (.v 1)⟩] ++ mkL [1, 11, 12, 34, 35, 77, 79, 80] ([
    ⟨some 81, some (77, false), none, .objs [], .lenS (.v 80)⟩,
    ⟨some 82, some (77, false), none, .objs [], .bin .neq false (.v 79) (.v 81)⟩,
    ⟨some 83, none, none, .objs [], .pk (.v 77) (.c (.sc (.bool true))) (.v 82)⟩]))) <|
    .cond (.v 83) (.seq (.ops ([
      ⟨some 8, none, none, .objs [], .mv (.c (.sc (.bool false)))⟩])) <|
      .ret) (.nop)) <|
    .seq (.ops ([
    ⟨some 84, none, none, .objs [], .mv (.v 12)⟩,
    ⟨some 85, none, none, .objs [], .lenS (.v 84)⟩,
    ⟨some 86, none, none, .objs [], .mv (.c (.sc (.int .i64 0)))⟩])) <|
    .block 2 (.loop (some [1, 11, 34, 35, 84, 85, 86]) il4l0))) <|
  .ops ([
  ⟨some 106, none, none, .objs [], .bin .add false (.v 35) (.c (.sc (.int .i64 1)))⟩,
  ⟨some 35, none, none, .objs [], .mv (.v 106)⟩])
noncomputable def il4l1 : C := il4l1b
theorem il4l1_go {P : Program} {pol : Pol} {K : Oracle} {I : Inl} {n : Nat} {f : FuncId} {R : Xit → FEnv → Heap → Prop} {e : FEnv} {h : Heap} : wc P pol K I n f il4l1 R e h = wc P pol K I n f il4l1b R e h := (fun x => x) rfl

noncomputable def il4c : C :=
  .seq (.ops ([
  ⟨some 4, none, none, .objs [], .bx false (.v 0)⟩,
  ⟨some 8, none, none, .objs [], .mv (.c (.sc (.bool false)))⟩])) <|
  .seq (.seq (.ops ([
  ⟨some 16, none, none, .objs [], .call (.c (.fn (.func 15) [] [])) []⟩,
  ⟨some 17, none, none, .objs [], .nt (.v 16)⟩])) <|
  .cond (.v 17) (.seq (.ops ([
    ⟨some 8, none, none, .objs [], .mv (.c (.sc (.bool false)))⟩])) <|
    .ret) (.nop)) <|
  .seq (.ops ([
  ⟨some 18, none, none, .objs [], .mv (.v 1)⟩,
  ⟨some 19, none, none, .objs [], .mv (.v 1)⟩,
  ⟨some 20, none, none, .objs [], .lenS (.v 19)⟩,
  ⟨some 21, none, none, .objs [], .mnx false (.v 20) (.c (.sc (.int .i64 4)))⟩,
  ⟨some 22, none, none, .objs [], .sl 1 (.v 18) none (some (.v 21)) none⟩,
  ⟨some 1, none, none, .objs [], .mv (.v 22)⟩])) <|
  .seq (.ops ([
  ⟨some 23, none, none, .objs [], .ld true 5 (.v 4)⟩,
  ⟨some 9, none, none, .objs [], .nw 5 (.agg [(.sc (.int .i64 0)), (.sc (.int .i64 0)), (.sc (.int .i64 0)), (.sc (.int .i64 0)), (.sc (.int .i64 0))])⟩,
  ⟨none, none, none, .objs [], .st 5 (.v 9) (.v 23)⟩])) <| mkC [1, 2, 3, 4, 9] <|
  .seq (.ops ([
  ⟨some 24, none, none, .objs [], .mv (.v 2)⟩,
  ⟨some 25, none, none, .objs [], .bin .rem false (.v 24) (.c (.sc (.int .u16 4095)))⟩,
  ⟨some 26, none, none, .objs [], .cv .i64 (.v 25)⟩,
  ⟨some 27, none, none, .objs [], .bin .add false (.c (.sc (.int .i64 1))) (.v 26)⟩,
  ⟨some 28, none, none, .objs [], .mv (.v 3)⟩,
  ⟨some 29, none, none, .objs [], .cv .i64 (.v 28)⟩,
  ⟨some 30, none, none, .objs [], .fa 0 (.v 9)⟩,
  ⟨none, none, none, .objs [], .st 1 (.v 30) (.v 27)⟩,
  ⟨some 31, none, none, .objs [], .fa 1 (.v 9)⟩,
  ⟨none, none, none, .objs [], .st 1 (.v 31) (.v 29)⟩])) <|
  .seq (.seq (.ops ([
  ⟨some 32, none, none, .objs [], .ld true 5 (.v 4)⟩,
  ⟨some 33, none, none, .objs [], .ld true 5 (.v 9)⟩,
  ⟨some 34, none, none, .objs [], .bd [(.sc (.int .i64 0)), (.sc (.int .i64 0)), (.sc (.int .i64 0)), (.sc (.int .i64 0)), (.sc (.int .i64 0)), (.sc (.int .i64 0)), (.sc (.int .i64 0)), (.sc (.int .i64 0)), (.sc (.int .i64 0)), (.sc (.int .i64 0))] [(0, 5, (.v 32)), (5, 5, (.v 33))]⟩,
  ⟨some 35, none, none, .objs [], .mv (.c (.sc (.int .i64 0)))⟩])) <| mkC [1, 34, 35] <|
  .block 0 (.loop (some [1, 34, 35]) il4l1)) <|
  .seq (.ops ([
  ⟨some 8, none, none, .objs [], .mv (.c (.sc (.bool true)))⟩])) <|
  .ret

theorem il4_eq : cFn Try.prog pol 4 = some ⟨107, il4c, [(8, none)]⟩ := by kernel_rfl
theorem raw4_18_3 {e : FEnv} {h : Heap} : iStep Try.prog pol 4 e h (.raw (opOf Try.prog 4 18 3)) = vOf h (binE Try.prog true 31 (.tmp 92) (.tmp 93) (Src.get e (.v 92)) (Src.get e (.v 93))) := raw_neq (x := (.tmp 92)) (y := (.tmp 93)) (s := 31) (by kernel_rfl)

noncomputable def il16c : C :=
  .seq (.ops ([
  ⟨some 4, none, none, .objs [], .mv (.c (.sc (.int .i64 0)))⟩,
  ⟨some 5, none, none, .objs [], .mv (.c (.sc (.int .i64 0)))⟩])) <|
  .seq (.seq (.ops ([
  ⟨some 6, none, none, .objs [], .mv (.v 0)⟩,
  ⟨some 7, none, none, .objs [], .call (.c (.fn (.func 41) [] [])) [(.v 6)]⟩,
  ⟨some 8, none, none, .objs [], .nt (.v 7)⟩,
  ⟨some 9, none, none, .objs [], .mv (.v 8)⟩,
  ⟨some 10, some (9, false), none, .objs [], .mv (.v 1)⟩,
  ⟨some 11, some (9, false), none, .objs [], .call (.c (.fn (.func 41) [] [])) [(.v 10)]⟩,
  ⟨some 12, some (9, false), none, .objs [], .nt (.v 11)⟩,
  ⟨some 13, none, none, .objs [], .pk (.v 9) (.c (.sc (.bool true))) (.v 12)⟩])) <|
  .cond (.v 13) (.seq (.ops ([
    ⟨some 4, none, none, .objs [], .mv (.c (.sc (.int .i64 0)))⟩,
    ⟨some 5, none, none, .objs [], .mv (.c (.sc (.int .i64 2)))⟩])) <|
    .ret) (.nop)) <|
  .seq (.ops ([
  ⟨some 14, none, none, .objs [], .mv (.v 1)⟩,
  ⟨some 15, none, none, .objs [], .mv (.v 0)⟩] ++ mkL [14, 15] ([
  ⟨some 16, none, none, .objs [], .bin .sub false (.v 14) (.v 15)⟩,
  ⟨some 17, none, none, .objs [], .bin .add false (.v 16) (.c (.sc (.int .i64 32768)))⟩,
  ⟨some 18, none, none, .objs [], .call (.c (.fn (.func 42) [] [])) [(.v 17)]⟩,
  ⟨some 19, none, none, .objs [], .bin .sub false (.v 18) (.c (.sc (.int .i64 32768)))⟩,
  ⟨some 4, none, none, .objs [], .mv (.v 19)⟩,
  ⟨some 5, none, none, .objs [], .mv (.c (.sc (.int .i64 0)))⟩]))) <|
  .ret

theorem il16_eq : cFn Try.prog pol 16 = some ⟨20, il16c, [(4, none), (5, none)]⟩ := by kernel_rfl

noncomputable def il17c : C :=
  .seq (.ops ([
  ⟨some 4, none, none, .objs [], .mv (.c (.sc (.int .i64 0)))⟩,
  ⟨some 5, none, none, .objs [], .mv (.c (.sc (.int .i64 0)))⟩])) <|
  .seq (.seq (.ops ([
  ⟨some 6, none, none, .objs [], .mv (.v 0)⟩,
  ⟨some 7, none, none, .objs [], .call (.c (.fn (.func 41) [] [])) [(.v 6)]⟩,
  ⟨some 8, none, none, .objs [], .nt (.v 7)⟩])) <|
  .cond (.v 8) (.seq (.ops ([
    ⟨some 4, none, none, .objs [], .mv (.c (.sc (.int .i64 0)))⟩,
    ⟨some 5, none, none, .objs [], .mv (.c (.sc (.int .i64 2)))⟩])) <|
    .ret) (.nop)) <|
  .seq (.ops ([
  ⟨some 9, none, none, .objs [], .mv (.v 0)⟩,
  ⟨some 10, none, none, .objs [], .mv (.v 1)⟩,
  ⟨some 11, none, none, .objs [], .call (.c (.fn (.func 42) [] [])) [(.v 10)]⟩,
  ⟨some 12, none, none, .objs [], .bin .add false (.v 9) (.v 11)⟩,
  ⟨some 13, none, none, .objs [], .call (.c (.fn (.func 42) [] [])) [(.v 12)]⟩,
  ⟨some 4, none, none, .objs [], .mv (.v 13)⟩,
  ⟨some 5, none, none, .objs [], .mv (.c (.sc (.int .i64 0)))⟩])) <|
  .ret

theorem il17_eq : cFn Try.prog pol 17 = some ⟨14, il17c, [(4, none), (5, none)]⟩ := by kernel_rfl

noncomputable def il19c : C :=
  .seq (.ops ([
  ⟨some 4, none, none, .objs [], .mv (.c (.sc (.int .i64 0)))⟩])) <|
  .seq (.ops ([
  ⟨some 6, none, none, .objs [], .mv (.v 0)⟩,
  ⟨some 7, none, none, .objs [], .mv (.v 1)⟩,
  ⟨some 8, none, none, .objs [], .bin .rem false (.v 7) (.c (.sc (.int .i64 65536)))⟩,
  ⟨some 9, none, none, .objs [], .bin .add false (.v 6) (.v 8)⟩,
  ⟨some 10, none, none, .objs [], .bin .rem false (.v 9) (.c (.sc (.int .i64 65536)))⟩,
  ⟨some 5, none, none, .objs [], .mv (.v 10)⟩])) <|
  .seq (.seq (.ops ([
  ⟨some 11, none, none, .objs [], .mv (.v 5)⟩,
  ⟨some 12, none, none, .objs [], .bin .lss false (.v 11) (.c (.sc (.int .i64 0)))⟩])) <|
  .cond (.v 12) (.ops ([
    ⟨some 13, none, none, .objs [], .mv (.v 5)⟩,
    ⟨some 14, none, none, .objs [], .bin .add false (.v 13) (.c (.sc (.int .i64 65536)))⟩,
    ⟨some 5, none, none, .objs [], .mv (.v 14)⟩])) (.nop)) <|
  .seq (.ops ([
  ⟨some 15, none, none, .objs [], .mv (.v 5)⟩,
  ⟨some 4, none, none, .objs [], .mv (.v 15)⟩])) <|
  .ret

theorem il19_eq : cFn Try.prog pol 19 = some ⟨16, il19c, [(4, none)]⟩ := by kernel_rfl

noncomputable def il20c : C :=
  .seq (.ops ([
  ⟨some 2, none, none, .objs [], .mv (.c (.sc (.bool false)))⟩])) <|
  .seq (.ops ([
  ⟨some 3, none, none, .objs [], .mv (.v 0)⟩,
  ⟨some 4, none, none, .objs [], .bin .geq false (.v 3) (.c (.sc (.int .i64 0)))⟩,
  ⟨some 5, none, none, .objs [], .mv (.v 4)⟩,
  ⟨some 6, some (5, true), none, .objs [], .mv (.v 0)⟩,
  ⟨some 7, some (5, true), none, .objs [], .bin .leq false (.v 6) (.c (.sc (.int .i64 65535)))⟩,
  ⟨some 8, none, none, .objs [], .pk (.v 5) (.v 7) (.c (.sc (.bool false)))⟩,
  ⟨some 2, none, none, .objs [], .mv (.v 8)⟩])) <|
  .ret

theorem il20_eq : cFn Try.prog pol 20 = some ⟨9, il20c, [(2, none)]⟩ := by kernel_rfl

noncomputable def il21r0a : C :=
  .ops ([
  ⟨some 7, none, none, .objs [], .nw 6 (.agg [(.sc (.int .i64 0)), (.sc (.int .i64 0)), (.sc (.int .i64 0)), (.sc (.int .i64 0)), (.sc (.int .i64 0)), (.sc (.slice none 0 0))])⟩,
  ⟨none, none, none, .objs [], .st 6 (.v 7) (.v 31)⟩])
noncomputable def il21r0b : C :=
  .block 1 (.ops ([
    ⟨some 32, none, none, .objs [], .ld false 1 (.v 6)⟩,
    ⟨some 33, none, none, .objs [], .ld true 6 (.v 7)⟩,
    ⟨some 34, none, none, .objs [], .bs false 6 (.agg [(.sc (.int .i64 0)), (.sc (.int .i64 0)), (.sc (.int .i64 0)), (.sc (.int .i64 0)), (.sc (.int .i64 0)), (.sc (.slice none 0 0))]) 1 [(0, (.v 33))]⟩,
    ⟨some 35, none, none, .objs [], .app 6 64 (.v 32) (.v 34)⟩,
    ⟨none, none, none, .objs [], .st 1 (.v 6) (.v 35)⟩]))
theorem il21r0a_eq : cCode Try.prog pol 21 37 0 (rfOf Try.prog 21 0).1 = il21r0a := by kernel_rfl
theorem il21r0b_eq : cCode Try.prog pol 21 37 0 (rfOf Try.prog 21 0).2 = il21r0b := by kernel_rfl
noncomputable def il21c : C :=
  .seq (.ops ([
  ⟨some 2, none, none, .objs [], .bx false (.v 0)⟩,
  ⟨some 4, none, none, .objs [], .mv (.c (.sc (.slice none 0 0)))⟩,
  ⟨some 5, none, none, .objs [], .mv (.c (.sc (.int .i64 0)))⟩])) <|
  .seq (.seq (.ops ([
  ⟨some 8, none, none, .objs [], .fa 0 (.v 2)⟩,
  ⟨some 9, none, none, .objs [], .ld false 1 (.v 8)⟩,
  ⟨some 10, none, none, .objs [], .call (.c (.fn (.func 43) [] [])) [(.v 9)]⟩,
  ⟨some 11, none, none, .objs [], .nt (.v 10)⟩,
  ⟨some 12, none, none, .objs [], .mv (.v 11)⟩,
  ⟨some 13, some (12, false), none, .objs [], .fa 1 (.v 2)⟩,
  ⟨some 14, some (12, false), none, .objs [], .ld false 1 (.v 13)⟩,
  ⟨some 15, some (12, false), none, .objs [], .call (.c (.fn (.func 41) [] [])) [(.v 14)]⟩,
  ⟨some 16, some (12, false), none, .objs [], .nt (.v 15)⟩,
  ⟨some 17, none, none, .objs [], .pk (.v 12) (.c (.sc (.bool true))) (.v 16)⟩,
  ⟨some 18, none, none, .objs [], .mv (.v 17)⟩] ++ mkL [1, 2, 4, 5, 18] ([
  ⟨some 19, some (18, false), none, .objs [], .mv (.v 1)⟩,
  ⟨some 20, some (18, false), none, .objs [], .lenS (.v 19)⟩,
  ⟨some 21, some (18, false), none, .objs [], .bin .eql false (.v 20) (.c (.sc (.int .i64 0)))⟩,
  ⟨some 22, none, none, .objs [], .pk (.v 18) (.c (.sc (.bool true))) (.v 21)⟩,
  ⟨some 23, none, none, .objs [], .mv (.v 22)⟩,
  ⟨some 24, some (23, false), none, .objs [], .mv (.v 1)⟩,
  ⟨some 25, some (23, false), none, .objs [], .lenS (.v 24)⟩,
  ⟨some 26, some (23, false), none, .objs [], .bin .gtr false (.v 25) (.c (.sc (.int .i64 2)))⟩,
  ⟨some 27, none, none, .objs [], .pk (.v 23) (.c (.sc (.bool true))) (.v 26)⟩]))) <|
  .cond (.v 27) (.seq (.ops ([
    ⟨some 4, none, none, .objs [], .mv (.c (.sc (.slice none 0 0)))⟩,
    ⟨some 5, none, none, .objs [], .mv (.c (.sc (.int .i64 2)))⟩])) <|
    .ret) (.nop)) <|
  .seq (.ops ([
  ⟨some 6, none, none, .objs [], .nwG 6⟩])) <|
  .seq (.seq (.ops ([
  ⟨some 28, none, none, .objs [], .ld true 5 (.v 2)⟩,
  ⟨some 29, none, none, .objs [], .mv (.v 1)⟩] ++ mkL [4, 5, 6, 28, 29] ([
  ⟨some 30, none, none, .objs [], .call (.c (.fn (.func 44) [] [])) [(.v 28), (.v 29)]⟩]))) <|
  .block 0 (.rangeF 37 (some [6]) (.v 30) [31] (rfOf Try.prog 21 0).1 (rfOf Try.prog 21 0).2)) <|
  .seq (.ops ([
  ⟨some 36, none, none, .objs [], .ld false 1 (.v 6)⟩,
  ⟨some 4, none, none, .objs [], .mv (.v 36)⟩,
  ⟨some 5, none, none, .objs [], .mv (.c (.sc (.int .i64 0)))⟩])) <|
  .ret

theorem il21_eq : cFn Try.prog pol 21 = some ⟨37, il21c, [(4, none), (5, none)]⟩ := by kernel_rfl

noncomputable def il22l0b : C :=
  .seq (.ops ([
  ⟨some 14, none, none, .objs [], .bin .lss false (.v 13) (.v 12)⟩])) <|
  .seq (.cond (.v 14) (.nop) (.exit 0)) <|
  .seq (.block 1 (.seq (.ops ([
    ⟨some 15, none, none, .objs [], .mv (.v 13)⟩,
    ⟨some 5, none, none, .objs [], .mv (.v 15)⟩])) <|
    .seq (.opsD [] ([
    ⟨some 16, none, none, .objs [], .mv (.v 0)⟩,
    ⟨some 17, none, none, .objs [], .mv (.v 5)⟩,
    ⟨some 18, none, none, .objs [], .iaS 1 (.v 16) (.v 17)⟩,
    ⟨some 19, none, none, .objs [(.v 18)], .ld false 1 (.v 18)⟩,
    ⟨some 20, none, none, .objs [], .mv (.v 1)⟩,
    ⟨some 21, none, none, .objs [], .mv (.v 5)⟩,
    ⟨some 22, none, none, .objs [], .iaS 1 (.v 20) (.v 21)⟩,
    ⟨some 23, none, none, .objs [(.v 22)], .ld false 1 (.v 22)⟩,
    ⟨some 24, none, none, .objs [], .bin .neq false (.v 19) (.v 23)⟩])) <|
    .cond (.v 24) (.seq (.ops ([
      ⟨some 4, none, none, .objs [], .mv (.c (.sc (.bool false)))⟩])) <|
      .ret) (.nop))) <|
  .ops ([
  ⟨some 25, none, none, .objs [], .bin .add false (.v 13) (.c (.sc (.int .i64 1)))⟩] ++ mkL [0, 1, 12, 25] ([
  ⟨some 13, none, none, .objs [], .mv (.v 25)⟩]))
noncomputable def il22l0 : C := il22l0b
theorem il22l0_go {P : Program} {pol : Pol} {K : Oracle} {I : Inl} {n : Nat} {f : FuncId} {R : Xit → FEnv → Heap → Prop} {e : FEnv} {h : Heap} : wc P pol K I n f il22l0 R e h = wc P pol K I n f il22l0b R e h := (fun x => x) rfl

noncomputable def il22c : C :=
  .seq (.ops ([
  ⟨some 4, none, none, .objs [], .mv (.c (.sc (.bool false)))⟩])) <|
  .seq (.seq (.ops ([
  ⟨some 6, none, none, .objs [], .mv (.v 0)⟩,
  ⟨some 7, none, none, .objs [], .lenS (.v 6)⟩,
  ⟨some 8, none, none, .objs [], .mv (.v 1)⟩,
  ⟨some 9, none, none, .objs [], .lenS (.v 8)⟩,
  ⟨some 10, none, none, .objs [], .bin .neq false (.v 7) (.v 9)⟩])) <|
  .cond (.v 10) (.seq (.ops ([
    ⟨some 4, none, none, .objs [], .mv (.c (.sc (.bool false)))⟩])) <|
    .ret) (.nop)) <|
  .seq (.seq (.ops ([
  ⟨some 11, none, none, .objs [], .mv (.v 0)⟩,
  ⟨some 12, none, none, .objs [], .lenS (.v 11)⟩,
  ⟨some 13, none, none, .objs [], .mv (.c (.sc (.int .i64 0)))⟩])) <|
  .block 0 (.loop (some [0, 1, 12, 13]) il22l0)) <|
  .seq (.ops ([
  ⟨some 4, none, none, .objs [], .mv (.c (.sc (.bool true)))⟩])) <|
  .ret

theorem il22_eq : cFn Try.prog pol 22 = some ⟨26, il22c, [(4, none)]⟩ := by kernel_rfl

noncomputable def il41c : C :=
  .seq (.ops ([
  ⟨some 2, none, none, .objs [], .mv (.c (.sc (.bool false)))⟩])) <|
  .seq (.ops ([
  ⟨some 3, none, none, .objs [], .mv (.v 0)⟩,
  ⟨some 4, none, none, .objs [], .bin .geq false (.v 3) (.c (.sc (.int .i64 0)))⟩,
  ⟨some 5, none, none, .objs [], .mv (.v 4)⟩,
  ⟨some 6, some (5, true), none, .objs [], .mv (.v 0)⟩,
  ⟨some 7, some (5, true), none, .objs [], .bin .lss false (.v 6) (.c (.sc (.int .i64 65536)))⟩,
  ⟨some 8, none, none, .objs [], .pk (.v 5) (.v 7) (.c (.sc (.bool false)))⟩,
  ⟨some 2, none, none, .objs [], .mv (.v 8)⟩])) <|
  .ret

theorem il41_eq : cFn Try.prog pol 41 = some ⟨9, il41c, [(2, none)]⟩ := by kernel_rfl

noncomputable def il42c : C :=
  .seq (.ops ([
  ⟨some 2, none, none, .objs [], .mv (.c (.sc (.int .i64 0)))⟩])) <|
  .seq (.ops ([
  ⟨some 3, none, none, .objs [], .mv (.v 0)⟩,
  ⟨some 4, none, none, .objs [], .bin .rem false (.v 3) (.c (.sc (.int .i64 65536)))⟩,
  ⟨some 0, none, none, .objs [], .mv (.v 4)⟩])) <|
  .seq (.seq (.ops ([
  ⟨some 5, none, none, .objs [], .mv (.v 0)⟩,
  ⟨some 6, none, none, .objs [], .bin .lss false (.v 5) (.c (.sc (.int .i64 0)))⟩])) <|
  .cond (.v 6) (.ops ([
    ⟨some 7, none, none, .objs [], .mv (.v 0)⟩,
    ⟨some 8, none, none, .objs [], .bin .add false (.v 7) (.c (.sc (.int .i64 65536)))⟩,
    ⟨some 0, none, none, .objs [], .mv (.v 8)⟩])) (.nop)) <|
  .seq (.ops ([
  ⟨some 9, none, none, .objs [], .mv (.v 0)⟩,
  ⟨some 2, none, none, .objs [], .mv (.v 9)⟩])) <|
  .ret

theorem il42_eq : cFn Try.prog pol 42 = some ⟨10, il42c, [(2, none)]⟩ := by kernel_rfl

noncomputable def il43c : C :=
  .seq (.ops ([
  ⟨some 2, none, none, .objs [], .mv (.c (.sc (.bool false)))⟩])) <|
  .seq (.ops ([
  ⟨some 3, none, none, .objs [], .mv (.v 0)⟩,
  ⟨some 4, none, none, .objs [], .bin .geq false (.v 3) (.c (.sc (.int .i64 1)))⟩,
  ⟨some 5, none, none, .objs [], .mv (.v 4)⟩,
  ⟨some 6, some (5, true), none, .objs [], .mv (.v 0)⟩,
  ⟨some 7, some (5, true), none, .objs [], .bin .leq false (.v 6) (.c (.sc (.int .i64 4095)))⟩,
  ⟨some 8, none, none, .objs [], .pk (.v 5) (.v 7) (.c (.sc (.bool false)))⟩,
  ⟨some 2, none, none, .objs [], .mv (.v 8)⟩])) <|
  .ret

theorem il43_eq : cFn Try.prog pol 43 = some ⟨9, il43c, [(2, none)]⟩ := by kernel_rfl

noncomputable def il44c : C :=
  .seq (.ops ([
  ⟨some 2, none, none, .objs [], .bx false (.v 0)⟩,
  ⟨some 3, none, none, .objs [], .bx false (.v 1)⟩,
  ⟨some 4, none, none, .objs [], .mv (.c (.sc .nilFunc))⟩])) <|
  .seq (.ops ([
  ⟨some 5, none, none, .objs [], .fn 54 [] [(.v 3), (.v 2)]⟩,
  ⟨some 4, none, none, .objs [], .mv (.v 5)⟩])) <|
  .ret

theorem il44_eq : cFn Try.prog pol 44 = some ⟨6, il44c, [(4, none)]⟩ := by kernel_rfl

noncomputable def il54l0b : C :=
  .seq (.ops ([
  ⟨some 9, none, none, .objs [], .bin .lss false (.v 8) (.v 7)⟩])) <|
  .seq (.cond (.v 9) (.nop) (.exit 0)) <|
  .seq (.block 1 (.seq (.ops ([
    ⟨some 10, none, none, .objs [], .iaS 1 (.v 6) (.v 8)⟩,
    ⟨some 11, none, none, .objs [], .ld false 1 (.v 10)⟩,
    ⟨some 5, none, none, .objs [], .mv (.v 11)⟩])) <|
    .seq (.opsD [(1, 3)] ([
    ⟨some 12, none, none, .objs [], .mv (.v 0)⟩,
    ⟨some 13, none, none, .objs [(.v 2)], .ld true 5 (.v 2)⟩,
    ⟨some 14, none, none, .objs [], .mv (.v 5)⟩,
    ⟨some 15, none, none, .objs [(.c (.sc (.slice none 0 0))), (.v 14)], .app 1 8 (.c (.sc (.slice none 0 0))) (.v 14)⟩,
    ⟨some 16, none, none, .objs [], .bd [(.sc (.int .i64 0)), (.sc (.int .i64 0)), (.sc (.int .i64 0)), (.sc (.int .i64 0)), (.sc (.int .i64 0)), (.sc (.slice none 0 0))] [(0, 5, (.v 13)), (5, 1, (.v 15))]⟩,
    ⟨some 17, none, none, .cal (.v 12) [(.v 16)], .call (.v 12) [(.v 16)]⟩,
    ⟨some 18, none, none, .objs [], .nt (.v 17)⟩])) <|
    .cond (.v 18) (.ret) (.nop))) <|
  .ops ([
  ⟨some 19, none, none, .objs [], .bin .add false (.v 8) (.c (.sc (.int .i64 1)))⟩,
  ⟨some 8, none, none, .objs [], .mv (.v 19)⟩])
noncomputable def il54l0 : C := il54l0b
theorem il54l0_go {P : Program} {pol : Pol} {K : Oracle} {I : Inl} {n : Nat} {f : FuncId} {R : Xit → FEnv → Heap → Prop} {e : FEnv} {h : Heap} : wc P pol K I n f il54l0 R e h = wc P pol K I n f il54l0b R e h := (fun x => x) rfl

noncomputable def il54c : C :=
  .seq (.ops ([
  ⟨some 6, none, none, .objs [], .ld false 1 (.v 1)⟩,
  ⟨some 7, none, none, .objs [], .lenS (.v 6)⟩,
  ⟨some 8, none, none, .objs [], .mv (.c (.sc (.int .i64 0)))⟩])) <|
  .block 0 (.loop (some [0, 2, 6, 7, 8]) il54l0)

theorem il54_eq : cFn Try.prog pol 54 = some ⟨20, il54c, []⟩ := by kernel_rfl


attribute [go_sem] eqT31
attribute [go_sem] eqT46
attribute [go_sem] eqT50
attribute [go_sem] raw4_18_3
end Go.Proofs.Ytkamfflnfnjbeaa
