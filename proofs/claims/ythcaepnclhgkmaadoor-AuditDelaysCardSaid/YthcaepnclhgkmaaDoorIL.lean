/- Functions of the program, worked out ahead (printed by a program; each is checked against the program by the kernel). -/
import Derived.Test.YthcaepnclhgkmaaDoorILBase
set_option linter.unusedSimpArgs false
namespace Go.Proofs.YthcaepnclhgkmaaDoor
open Go Go.Abs
set_option maxRecDepth 100000
set_option linter.unusedVariables false

theorem eqT34 {a0 b0 : Int} {a1 b1 : Int} {a2 b2 : Int} {a3 b3 : Int} : aEq Tryd.prog 34 (.t (.agg [.sc (.int .i64 a0), .sc (.int .i64 a1), .sc (.int .i64 a2), .sc (.int .i64 a3)])) (.t (.agg [.sc (.int .i64 b0), .sc (.int .i64 b1), .sc (.int .i64 b2), .sc (.int .i64 b3)])) = some (decide (a0 = b0 ∧ a1 = b1 ∧ a2 = b2 ∧ a3 = b3)) :=
  (show aEq Tryd.prog 34 (.t (.agg [.sc (.int .i64 a0), .sc (.int .i64 a1), .sc (.int .i64 a2), .sc (.int .i64 a3)])) (.t (.agg [.sc (.int .i64 b0), .sc (.int .i64 b1), .sc (.int .i64 b2), .sc (.int .i64 b3)])) = some ((a0 == b0) && ((a1 == b1) && ((a2 == b2) && ((a3 == b3) && true)))) by kernel_rfl).trans (by congr 1; rw [Bool.eq_iff_iff]; simp [and_assoc])

theorem eqT22 : isSliceT Tryd.prog 22 = true := by kernel_rfl

theorem eqT23 : isSliceT Tryd.prog 23 = true := by kernel_rfl

noncomputable def il4l0b : C :=
  .seq (.ops ([
  ⟨some 39, none, none, .objs [], .bin .lss false (.v 38) (.c (.sc (.int .i64 3)))⟩])) <|
  .seq (.cond (.v 39) (.nop) (.exit 2)) <|
  .seq (.block 3 (.seq (.ops ([
    ⟨some 40, none, none, .objs [], .ixA false 1 3 1 (.v 37) (.v 38)⟩,
    ⟨some 12, none, none, .objs [], .mv (.v 40)⟩])) <|
    .seq (.ops ([
    ⟨some 42, none, none, .objs [], .mv (.v 10)⟩,
    ⟨some 43, none, none, .objs [], .mv (.v 12)⟩,
    ⟨some 44, none, none, .objs [], .call (.c (.fn (.func 16) [] [])) [(.v 42), (.v 43)]⟩,
    ⟨some 41, none, none, .objs [], .mv (.v 44)⟩,
    ⟨some 45, none, none, .objs [], .ex (.v 41) 0⟩,
    ⟨some 46, none, none, .objs [], .ex (.v 41) 1⟩,
    ⟨some 13, none, none, .objs [], .mv (.v 45)⟩,
    ⟨some 14, none, none, .objs [], .mv (.v 46)⟩])) <|
    .seq (.ops ([
    ⟨some 15, none, none, .objs [], .mv (.c (.sc (.slice none 0 0)))⟩,
    ⟨some 16, none, none, .objs [], .mv (.c (.sc (.int .i64 0)))⟩])) <|
    .seq (.block 4 (.seq (.ops ([
      ⟨some 51, none, none, .objs [], .mv (.v 10)⟩] ++ mkL [2, 7, 10, 12, 13, 14, 15, 16, 32, 33, 37, 38, 51] ([
      ⟨some 52, none, none, .objs [], .call (.c (.fn (.func 14) [] [])) [(.v 51)]⟩,
      ⟨some 53, none, none, .objs [], .nt (.v 52)⟩,
      ⟨some 50, none, none, .objs [], .mv (.v 53)⟩]))) <|
      .cond (.v 50) (.ops ([
        ⟨some 16, none, none, .objs [], .mv (.c (.sc (.int .i64 540)))⟩])) (.seq (.ops ([
        ⟨some 55, none, none, .objs [], .mv (.v 12)⟩,
        ⟨some 56, none, none, .objs [], .bin .lss false (.v 55) (.c (.sc (.int .i64 0)))⟩,
        ⟨some 57, none, none, .objs [], .mv (.v 56)⟩,
        ⟨some 58, some (57, false), none, .objs [], .mv (.v 12)⟩,
        ⟨some 59, some (57, false), none, .objs [], .bin .gtr false (.v 58) (.c (.sc (.int .i64 4095)))⟩,
        ⟨some 60, none, none, .objs [], .pk (.v 57) (.c (.sc (.bool true))) (.v 59)⟩,
        ⟨some 54, none, none, .objs [], .mv (.v 60)⟩])) <|
        .cond (.v 54) (.ops ([
          ⟨some 16, none, none, .objs [], .mv (.c (.sc (.int .i64 2)))⟩])) (.ops ([
          ⟨some 47, none, none, .objs [], .mv (.v 10)⟩,
          ⟨some 48, none, none, .objs [], .mv (.v 12)⟩,
          ⟨some 49, none, none, .objs [], .call (.c (.fn (.func 17) [] [])) [(.v 47), (.v 48)]⟩,
          ⟨some 15, none, none, .objs [], .mv (.v 49)⟩]))))) <| mkC [2, 7, 10, 13, 14, 15, 16, 32, 33, 37, 38] <|
    .seq (.ops ([
    ⟨some 61, none, none, .objs [], .mv (.v 14)⟩,
    ⟨some 62, none, none, .objs [], .mv (.v 16)⟩,
    ⟨some 63, none, none, .objs [], .bin .neq false (.v 61) (.v 62)⟩,
    ⟨some 64, none, none, .objs [], .mv (.v 63)⟩,
    ⟨some 65, some (64, false), none, .objs [], .mv (.v 13)⟩,
    ⟨some 66, some (64, false), none, .objs [], .mv (.v 15)⟩,
    ⟨some 67, some (64, false), none, .objs [], .call (.c (.fn (.func 18) [] [])) [(.v 65), (.v 66)]⟩,
    ⟨some 68, some (64, false), none, .objs [], .nt (.v 67)⟩,
    ⟨some 69, none, none, .objs [], .pk (.v 64) (.c (.sc (.bool true))) (.v 68)⟩])) <|
    .cond (.v 69) (.seq (.ops ([
      ⟨some 8, none, none, .objs [], .mv (.c (.sc (.bool false)))⟩])) <|
      .ret) (.nop))) <|
  .ops ([
  ⟨some 70, none, none, .objs [], .bin .add false (.v 38) (.c (.sc (.int .i64 1)))⟩,
  ⟨some 38, none, none, .objs [], .mv (.v 70)⟩])
noncomputable def il4l0 : C := il4l0b
theorem il4l0_go {P : Program} {pol : Pol} {K : Oracle} {I : Inl} {n : Nat} {f : FuncId} {R : Xit → FEnv → Heap → Prop} {e : FEnv} {h : Heap} : wc P pol K I n f il4l0 R e h = wc P pol K I n f il4l0b R e h := (fun x => x) rfl

noncomputable def il4l1b : C :=
  .seq (.ops ([
  ⟨some 34, none, none, .objs [], .bin .lss false (.v 33) (.c (.sc (.int .i64 2)))⟩])) <|
  .seq (.cond (.v 34) (.nop) (.exit 0)) <|
  .seq (.block 1 (.seq (.ops ([
    ⟨some 35, none, none, .objs [], .ixA false 1 2 1 (.v 32) (.v 33)⟩,
    ⟨some 10, none, none, .objs [], .mv (.v 35)⟩])) <|
    .seq (.ops ([
    ⟨some 36, none, none, .objs [], .mv (.v 2)⟩,
    ⟨some 37, none, none, .objs [], .bd [(.sc (.int .i64 0)), (.sc (.int .i64 0)), (.sc (.int .i64 0))] [(0, 1, (.v 36)), (1, 1, (.c (.sc (.int .i64 1)))), (2, 1, (.c (.sc (.int .i64 0))))]⟩,
    ⟨some 38, none, none, .objs [], .mv (.c (.sc (.int .i64 0)))⟩])) <|
    .block 2 (.loop (some [2, 7, 10, 32, 33, 37, 38]) il4l0))) <|
  .ops ([
  ⟨some 71, none, none, .objs [], .bin .add false (.v 33) (.c (.sc (.int .i64 1)))⟩,
  ⟨some 33, none, none, .objs [], .mv (.v 71)⟩])
noncomputable def il4l1 : C := il4l1b
theorem il4l1_go {P : Program} {pol : Pol} {K : Oracle} {I : Inl} {n : Nat} {f : FuncId} {R : Xit → FEnv → Heap → Prop} {e : FEnv} {h : Heap} : wc P pol K I n f il4l1 R e h = wc P pol K I n f il4l1b R e h := (fun x => x) rfl

noncomputable def il4c : C :=
  .seq (.ops ([
  ⟨some 7, none, none, .objs [], .bx false (.v 3)⟩,
  ⟨some 8, none, none, .objs [], .mv (.c (.sc (.bool false)))⟩])) <|
  .seq (.seq (.ops ([
  ⟨some 19, none, none, .objs [], .call (.c (.fn (.func 9) [] [])) []⟩,
  ⟨some 20, none, none, .objs [], .nt (.v 19)⟩])) <|
  .cond (.v 20) (.seq (.ops ([
    ⟨some 8, none, none, .objs [], .mv (.c (.sc (.bool false)))⟩])) <|
    .ret) (.nop)) <|
  .seq (.seq (.opsD [(2, 10)] ([
  ⟨some 21, none, none, .objs [], .mv (.v 0)⟩,
  ⟨some 22, none, none, .objs [], .mv (.v 0)⟩,
  ⟨some 23, none, none, .objs [(.v 22)], .lenS (.v 22)⟩,
  ⟨some 24, none, none, .objs [], .mnx false (.v 23) (.c (.sc (.int .i64 100)))⟩,
  ⟨some 25, none, none, .objs [], .sl 4 (.v 21) none (some (.v 24)) none⟩,
  ⟨some 26, none, none, .objs [], .mv (.v 1)⟩,
  ⟨some 27, none, none, .objs [], .mv (.v 1)⟩,
  ⟨some 28, none, none, .objs [(.v 27)], .lenS (.v 27)⟩,
  ⟨some 29, none, none, .objs [], .mnx false (.v 28) (.c (.sc (.int .i64 100)))⟩] ++ mkL [2, 7, 25, 26, 29] ([
  ⟨some 30, none, none, .objs [], .sl 5 (.v 26) none (some (.v 29)) none⟩,
  ⟨some 31, none, none, .cal (.c (.fn (.func 11) [] [])) [(.v 30)], .call (.c (.fn (.func 11) [] [])) [(.v 30)]⟩,
  ⟨some 32, none, none, .objs [], .bd [(.sc (.slice none 0 0)), (.sc (.slice none 0 0))] [(0, 1, (.v 25)), (1, 1, (.v 31))]⟩,
  ⟨some 33, none, none, .objs [], .mv (.c (.sc (.int .i64 0)))⟩]))) <|
  .block 0 (.loop (some [2, 7, 32, 33]) il4l1)) <|
  .seq (.ops ([
  ⟨some 73, none, none, .objs [], .ld true 4 (.v 7)⟩,
  ⟨some 74, none, none, .objs [], .call (.c (.fn (.func 19) [] [])) [(.v 73)]⟩,
  ⟨some 72, none, none, .objs [], .mv (.v 74)⟩,
  ⟨some 75, none, none, .objs [], .ex (.v 72) 0⟩,
  ⟨some 76, none, none, .objs [], .ex (.v 72) 1⟩,
  ⟨some 17, none, none, .objs [], .mv (.v 75)⟩,
  ⟨some 18, none, none, .objs [], .mv (.v 76)⟩])) <|
  .seq (.seq (.ops ([
  ⟨some 77, none, none, .objs [], .fa 0 (.v 7)⟩,
  ⟨some 78, none, none, .objs [], .ld false 1 (.v 77)⟩,
  ⟨some 79, none, none, .objs [], .bin .lss false (.v 78) (.c (.sc (.int .i64 0)))⟩,
  ⟨some 80, none, none, .objs [], .mv (.v 79)⟩,
  ⟨some 81, some (80, false), none, .objs [], .fa 0 (.v 7)⟩,
  ⟨some 82, some (80, false), none, .objs [], .ld false 1 (.v 81)⟩,
  ⟨some 83, some (80, false), none, .objs [], .bin .gtr false (.v 82) (.c (.sc (.int .i64 8)))⟩] ++ mkL [7, 17, 18, 80, 83] ([
  ⟨some 84, none, none, .objs [], .pk (.v 80) (.c (.sc (.bool true))) (.v 83)⟩]))) <|
  .cond (.v 84) (.seq (.ops ([
    ⟨some 85, none, none, .objs [], .mv (.v 17)⟩,
    ⟨some 86, none, none, .objs [], .bin .eql false (.v 85) (.c (.sc (.string ⟨#[]⟩)))⟩,
    ⟨some 87, none, none, .objs [], .mv (.v 86)⟩,
    ⟨some 88, some (87, true), none, .objs [], .mv (.v 18)⟩,
    ⟨some 89, some (87, true), none, .objs [], .bin .eql false (.v 88) (.c (.sc (.int .i64 2)))⟩,
    ⟨some 90, none, none, .objs [], .pk (.v 87) (.v 89) (.c (.sc (.bool false)))⟩,
    ⟨some 8, none, none, .objs [], .mv (.v 90)⟩])) <|
    .ret) (.nop)) <|
  .seq (.ops ([
  ⟨some 91, none, none, .objs [], .mv (.v 18)⟩,
  ⟨some 92, none, none, .objs [], .bin .eql false (.v 91) (.c (.sc (.int .i64 0)))⟩,
  ⟨some 93, none, none, .objs [], .mv (.v 92)⟩,
  ⟨some 94, some (93, true), none, .objs [], .mv (.v 17)⟩,
  ⟨some 95, some (93, true), none, .objs [], .ld true 4 (.v 7)⟩,
  ⟨some 96, some (93, true), none, .objs [], .call (.c (.fn (.func 20) [] [])) [(.v 95)]⟩] ++ mkL [93, 94, 96] ([
  ⟨some 97, some (93, true), none, .objs [], .bin .eql false (.v 94) (.v 96)⟩,
  ⟨some 98, none, none, .objs [], .pk (.v 93) (.v 97) (.c (.sc (.bool false)))⟩,
  ⟨some 8, none, none, .objs [], .mv (.v 98)⟩]))) <|
  .ret

theorem il4_eq : cFn Tryd.prog pol 4 = some ⟨99, il4c, [(8, none)]⟩ := by kernel_rfl

noncomputable def il10l0b : C :=
  .seq (.seq (.ops ([
  ⟨some 5, none, none, .objs [], .mv (.v 4)⟩,
  ⟨some 6, none, none, .objs [], .mv (.v 0)⟩,
  ⟨some 7, none, none, .objs [], .lenS (.v 6)⟩,
  ⟨some 8, none, none, .objs [], .bin .lss false (.v 5) (.v 7)⟩,
  ⟨some 9, none, none, .objs [], .mv (.v 8)⟩,
  ⟨some 10, some (9, true), none, .objs [], .mv (.v 4)⟩,
  ⟨some 11, some (9, true), none, .objs [], .bin .lss false (.v 10) (.c (.sc (.int .i64 12)))⟩,
  ⟨some 12, none, none, .objs [], .pk (.v 9) (.v 11) (.c (.sc (.bool false)))⟩])) <|
  .cond (.v 12) (.nop) (.exit 0)) <|
  .seq (.block 1 (.opsD [] ([
    ⟨some 15, none, none, .objs [], .mv (.v 3)⟩,
    ⟨some 16, none, none, .objs [], .mv (.v 4)⟩,
    ⟨some 17, none, none, .objs [], .bin .add false (.v 16) (.c (.sc (.int .i64 1)))⟩,
    ⟨some 18, none, none, .objs [], .mv (.v 0)⟩,
    ⟨some 19, none, none, .objs [], .mv (.v 4)⟩,
    ⟨some 20, none, none, .objs [], .iaS 3 (.v 18) (.v 19)⟩] ++ mkL [0, 4, 15, 17, 20] ([
    ⟨some 21, none, none, .objs [], .fa 0 (.v 20)⟩,
    ⟨some 22, none, none, .objs [(.v 21)], .ld false 1 (.v 21)⟩,
    ⟨some 23, none, none, .objs [], .cv .i64 (.v 22)⟩,
    ⟨some 24, none, none, .objs [], .mv (.v 0)⟩,
    ⟨some 25, none, none, .objs [], .mv (.v 4)⟩,
    ⟨some 26, none, none, .objs [], .iaS 3 (.v 24) (.v 25)⟩,
    ⟨some 27, none, none, .objs [], .fa 0 (.v 26)⟩,
    ⟨some 28, none, none, .objs [(.v 27)], .ld false 1 (.v 27)⟩,
    ⟨some 29, none, none, .objs [], .cv .i64 (.v 28)⟩,
    ⟨some 30, none, none, .objs [], .mv (.v 0)⟩,
    ⟨some 31, none, none, .objs [], .mv (.v 4)⟩,
    ⟨some 32, none, none, .objs [], .iaS 3 (.v 30) (.v 31)⟩,
    ⟨some 33, none, none, .objs [], .fa 1 (.v 32)⟩,
    ⟨some 34, none, none, .objs [(.v 33)], .ld false 1 (.v 33)⟩] ++ mkL [0, 4, 15, 17, 23, 29, 34] ([
    ⟨some 35, none, none, .objs [], .cv .i64 (.v 34)⟩,
    ⟨some 36, none, none, .objs [], .bin .add false (.v 29) (.v 35)⟩,
    ⟨some 37, none, none, .objs [], .mv (.v 0)⟩,
    ⟨some 38, none, none, .objs [], .mv (.v 4)⟩,
    ⟨some 39, none, none, .objs [], .iaS 3 (.v 37) (.v 38)⟩,
    ⟨some 40, none, none, .objs [], .fa 2 (.v 39)⟩,
    ⟨some 41, none, none, .objs [(.v 40)], .ld false 1 (.v 40)⟩,
    ⟨some 42, none, none, .objs [], .bd [(.sc (.int .i64 0)), (.sc (.int .i64 0)), (.sc (.int .i64 0)), (.sc (.bool false))] [(0, 1, (.v 17)), (1, 1, (.v 23)), (2, 1, (.v 36)), (3, 1, (.v 41))]⟩,
    ⟨some 43, none, none, .objs [], .bs false 4 (.agg [(.sc (.int .i64 0)), (.sc (.int .i64 0)), (.sc (.int .i64 0)), (.sc (.bool false))]) 1 [(0, (.v 42))]⟩,
    ⟨some 44, none, none, .objs [(.v 15), (.v 43)], .app 4 32 (.v 15) (.v 43)⟩,
    ⟨some 3, none, none, .objs [], .gmv 4 (.v 44)⟩]))))) <|
  .ops ([
  ⟨some 13, none, none, .objs [], .mv (.v 4)⟩,
  ⟨some 14, none, none, .objs [], .bin .add false (.v 13) (.c (.sc (.int .i64 1)))⟩,
  ⟨some 4, none, none, .objs [], .mv (.v 14)⟩])
noncomputable def il10l0 : C := il10l0b
theorem il10l0_go {P : Program} {pol : Pol} {K : Oracle} {I : Inl} {n : Nat} {f : FuncId} {R : Xit → FEnv → Heap → Prop} {e : FEnv} {h : Heap} : wc P pol K I n f il10l0 R e h = wc P pol K I n f il10l0b R e h := (fun x => x) rfl

noncomputable def il10c : C :=
  .seq (.ops ([
  ⟨some 2, none, none, .objs [], .mv (.c (.sc (.slice none 0 0)))⟩])) <|
  .seq (.ops ([
  ⟨some 3, none, none, .objs [], .gmv 4 (.c (.sc (.slice none 0 0)))⟩])) <|
  .seq (.seq (.ops ([
  ⟨some 4, none, none, .objs [], .mv (.c (.sc (.int .i64 0)))⟩])) <|
  .block 0 (.loop (some [0, 3, 4]) il10l0)) <|
  .seq (.ops ([
  ⟨some 45, none, none, .objs [], .mv (.v 3)⟩,
  ⟨some 2, none, none, .objs [], .mv (.v 45)⟩])) <|
  .ret

theorem il10_eq : cFn Tryd.prog pol 10 = some ⟨46, il10c, [(2, none)]⟩ := by kernel_rfl

noncomputable def il11l0b : C :=
  .seq (.seq (.ops ([
  ⟨some 7, none, none, .objs [], .mv (.v 5)⟩,
  ⟨some 8, none, none, .objs [], .mv (.v 0)⟩,
  ⟨some 9, none, none, .objs [], .lenS (.v 8)⟩,
  ⟨some 10, none, none, .objs [], .bin .lss false (.v 7) (.v 9)⟩,
  ⟨some 11, none, none, .objs [], .mv (.v 10)⟩,
  ⟨some 12, some (11, true), none, .objs [], .mv (.v 5)⟩,
  ⟨some 13, some (11, true), none, .objs [], .bin .lss false (.v 12) (.c (.sc (.int .i64 200)))⟩,
  ⟨some 14, none, none, .objs [], .pk (.v 11) (.v 13) (.c (.sc (.bool false)))⟩])) <|
  .cond (.v 14) (.nop) (.exit 0)) <|
  .seq (.block 1 (.seq (.ops ([
    ⟨some 17, none, none, .objs [], .mv (.v 4)⟩,
    ⟨some 18, none, none, .objs [], .mv (.v 0)⟩,
    ⟨some 19, none, none, .objs [], .mv (.v 5)⟩,
    ⟨some 20, none, none, .objs [], .iaS 5 (.v 18) (.v 19)⟩,
    ⟨some 21, none, none, .objs [], .fa 0 (.v 20)⟩,
    ⟨some 22, none, none, .objs [], .ld false 1 (.v 21)⟩] ++ mkL [0, 3, 5, 17, 22] ([
    ⟨some 23, none, none, .objs [], .cv .i64 (.v 22)⟩,
    ⟨some 24, none, none, .objs [], .bin .add false (.v 17) (.v 23)⟩,
    ⟨some 4, none, none, .objs [], .mv (.v 24)⟩]))) <|
    .seq (.opsD [(4, 16), (11, 16)] ([
    ⟨some 25, none, none, .objs [], .mv (.v 0)⟩,
    ⟨some 26, none, none, .objs [], .mv (.v 5)⟩,
    ⟨some 27, none, none, .objs [], .iaS 5 (.v 25) (.v 26)⟩,
    ⟨some 28, none, none, .objs [], .fa 2 (.v 27)⟩,
    ⟨some 29, none, none, .objs [(.v 28)], .ld false 1 (.v 28)⟩,
    ⟨some 30, none, none, .objs [], .bin .rem false (.v 29) (.c (.sc (.int .u8 4)))⟩,
    ⟨some 31, none, none, .objs [], .cv .i64 (.v 30)⟩,
    ⟨some 32, none, none, .objs [], .mv (.v 0)⟩,
    ⟨some 33, none, none, .objs [], .mv (.v 5)⟩,
    ⟨some 34, none, none, .objs [], .iaS 5 (.v 32) (.v 33)⟩,
    ⟨some 35, none, none, .objs [], .fa 3 (.v 34)⟩] ++ mkL [0, 3, 4, 5, 31, 35] ([
    ⟨some 36, none, none, .objs [(.v 35)], .ld false 1 (.v 35)⟩,
    ⟨some 37, none, none, .objs [], .bin .rem false (.v 36) (.c (.sc (.int .u8 16)))⟩,
    ⟨some 38, none, none, .objs [], .cv .i64 (.v 37)⟩,
    ⟨some 39, none, none, .objs [], .mv (.v 4)⟩,
    ⟨some 40, none, none, .objs [], .bd [(.sc (.int .i64 0)), (.sc (.int .i64 0)), (.sc (.int .i64 0)), (.sc (.int .i64 0))] [(0, 1, (.c (.sc (.int .i64 1)))), (1, 1, (.v 31)), (2, 1, (.v 38)), (3, 1, (.v 39))]⟩,
    ⟨some 6, none, none, .objs [], .nw 4 (.agg [(.sc (.int .i64 0)), (.sc (.int .i64 0)), (.sc (.int .i64 0)), (.sc (.int .i64 0))])⟩,
    ⟨none, none, none, .objs [(.v 6)], .st 4 (.v 6) (.v 40)⟩]))) <|
    .seq (.seq (.ops ([
    ⟨some 41, none, none, .objs [], .mv (.v 0)⟩,
    ⟨some 42, none, none, .objs [], .mv (.v 5)⟩,
    ⟨some 43, none, none, .objs [], .iaS 5 (.v 41) (.v 42)⟩,
    ⟨some 44, none, none, .objs [], .fa 1 (.v 43)⟩,
    ⟨some 45, none, none, .objs [], .ld false 1 (.v 44)⟩])) <|
    .cond (.v 45) (.ops ([
      ⟨some 46, none, none, .objs [], .fa 0 (.v 6)⟩,
      ⟨none, none, none, .objs [], .st 1 (.v 46) (.c (.sc (.int .i64 2)))⟩])) (.nop)) <| mkC [0, 3, 4, 5, 6] <|
    .ops ([
    ⟨some 47, none, none, .objs [], .mv (.v 3)⟩,
    ⟨some 48, none, none, .objs [], .ld true 4 (.v 6)⟩,
    ⟨some 49, none, none, .objs [], .bs false 4 (.agg [(.sc (.int .i64 0)), (.sc (.int .i64 0)), (.sc (.int .i64 0)), (.sc (.int .i64 0))]) 1 [(0, (.v 48))]⟩,
    ⟨some 50, none, none, .objs [], .app 4 32 (.v 47) (.v 49)⟩,
    ⟨some 3, none, none, .objs [], .gmv 4 (.v 50)⟩]))) <|
  .ops ([
  ⟨some 15, none, none, .objs [], .mv (.v 5)⟩,
  ⟨some 16, none, none, .objs [], .bin .add false (.v 15) (.c (.sc (.int .i64 1)))⟩,
  ⟨some 5, none, none, .objs [], .mv (.v 16)⟩])
noncomputable def il11l0 : C := il11l0b
theorem il11l0_go {P : Program} {pol : Pol} {K : Oracle} {I : Inl} {n : Nat} {f : FuncId} {R : Xit → FEnv → Heap → Prop} {e : FEnv} {h : Heap} : wc P pol K I n f il11l0 R e h = wc P pol K I n f il11l0b R e h := (fun x => x) rfl

noncomputable def il11c : C :=
  .seq (.ops ([
  ⟨some 2, none, none, .objs [], .mv (.c (.sc (.slice none 0 0)))⟩])) <|
  .seq (.ops ([
  ⟨some 3, none, none, .objs [], .gmv 4 (.c (.sc (.slice none 0 0)))⟩])) <|
  .seq (.ops ([
  ⟨some 4, none, none, .objs [], .mv (.c (.sc (.int .i64 0)))⟩])) <|
  .seq (.seq (.ops ([
  ⟨some 5, none, none, .objs [], .mv (.c (.sc (.int .i64 0)))⟩])) <|
  .block 0 (.loop (some [0, 3, 4, 5]) il11l0)) <|
  .seq (.ops ([
  ⟨some 51, none, none, .objs [], .mv (.v 3)⟩,
  ⟨some 2, none, none, .objs [], .mv (.v 51)⟩])) <|
  .ret

theorem il11_eq : cFn Tryd.prog pol 11 = some ⟨52, il11c, [(2, none)]⟩ := by kernel_rfl

noncomputable def il13l0b : C :=
  .seq (.seq (.ops ([
  ⟨some 5, none, none, .objs [], .mv (.v 3)⟩,
  ⟨some 6, none, none, .objs [], .mv (.v 0)⟩,
  ⟨some 7, none, none, .objs [], .lenS (.v 6)⟩,
  ⟨some 8, none, none, .objs [], .bin .lss false (.v 5) (.v 7)⟩])) <|
  .cond (.v 8) (.nop) (.exit 0)) <|
  .seq (.block 1 (.seq (.ops ([
    ⟨some 11, none, none, .objs [], .mv (.v 0)⟩,
    ⟨some 12, none, none, .objs [], .mv (.v 3)⟩,
    ⟨some 13, none, none, .objs [], .iaS 4 (.v 11) (.v 12)⟩,
    ⟨some 14, none, none, .objs [], .ld true 4 (.v 13)⟩,
    ⟨some 4, none, none, .objs [], .nw 4 (.agg [(.sc (.int .i64 0)), (.sc (.int .i64 0)), (.sc (.int .i64 0)), (.sc (.bool false))])⟩,
    ⟨none, none, none, .objs [], .st 4 (.v 4) (.v 14)⟩])) <|
    .seq (.opsD [] ([
    ⟨some 15, none, none, .objs [], .fa 0 (.v 4)⟩,
    ⟨some 16, none, none, .objs [(.v 15)], .ld false 1 (.v 15)⟩,
    ⟨some 17, none, none, .objs [], .bin .lss false (.v 16) (.c (.sc (.int .i64 1)))⟩,
    ⟨some 18, none, none, .objs [], .mv (.v 17)⟩] ++ mkL [0, 3, 4, 18] ([
    ⟨some 19, some (18, false), none, .objs [], .fa 0 (.v 4)⟩,
    ⟨some 20, some (18, false), none, .objs [(.v 19)], .ld false 1 (.v 19)⟩,
    ⟨some 21, some (18, false), none, .objs [], .bin .gtr false (.v 20) (.c (.sc (.int .i64 4095)))⟩,
    ⟨some 22, none, none, .objs [], .pk (.v 18) (.c (.sc (.bool true))) (.v 21)⟩,
    ⟨some 23, none, none, .objs [], .mv (.v 22)⟩,
    ⟨some 24, some (23, false), none, .objs [], .mv (.v 3)⟩,
    ⟨some 25, some (23, false), none, .objs [], .bin .gtr false (.v 24) (.c (.sc (.int .i64 0)))⟩,
    ⟨some 26, some (23, false), none, .objs [], .mv (.v 25)⟩,
    ⟨some 27, some (26, true), none, .objs [], .mv (.v 0)⟩,
    ⟨some 28, some (26, true), none, .objs [], .mv (.v 3)⟩,
    ⟨some 29, some (26, true), none, .objs [], .bin .sub false (.v 28) (.c (.sc (.int .i64 1)))⟩,
    ⟨some 30, some (26, true), none, .objs [], .iaS 4 (.v 27) (.v 29)⟩,
    ⟨some 31, some (26, true), none, .objs [], .fa 0 (.v 30)⟩,
    ⟨some 32, some (26, true), none, .objs [(.v 31)], .ld false 1 (.v 31)⟩] ++ mkL [0, 3, 4, 23, 26, 32] ([
    ⟨some 33, some (26, true), none, .objs [], .fa 0 (.v 4)⟩,
    ⟨some 34, some (26, true), none, .objs [(.v 33)], .ld false 1 (.v 33)⟩,
    ⟨some 35, some (26, true), none, .objs [], .bin .geq false (.v 32) (.v 34)⟩,
    ⟨some 36, some (23, false), none, .objs [], .pk (.v 26) (.v 35) (.c (.sc (.bool false)))⟩,
    ⟨some 37, none, none, .objs [], .pk (.v 23) (.c (.sc (.bool true))) (.v 36)⟩,
    ⟨some 38, none, none, .objs [], .mv (.v 37)⟩,
    ⟨some 39, some (38, false), none, .objs [], .fa 1 (.v 4)⟩,
    ⟨some 40, some (38, false), none, .objs [(.v 39)], .ld false 1 (.v 39)⟩,
    ⟨some 41, some (38, false), none, .objs [], .bin .lss false (.v 40) (.c (.sc (.int .i64 0)))⟩,
    ⟨some 42, none, none, .objs [], .pk (.v 38) (.c (.sc (.bool true))) (.v 41)⟩,
    ⟨some 43, none, none, .objs [], .mv (.v 42)⟩,
    ⟨some 44, some (43, false), none, .objs [], .fa 1 (.v 4)⟩,
    ⟨some 45, some (43, false), none, .objs [(.v 44)], .ld false 1 (.v 44)⟩,
    ⟨some 46, some (43, false), none, .objs [], .fa 2 (.v 4)⟩] ++ mkL [0, 3, 4, 43, 45, 46] ([
    ⟨some 47, some (43, false), none, .objs [(.v 46)], .ld false 1 (.v 46)⟩,
    ⟨some 48, some (43, false), none, .objs [], .bin .gtr false (.v 45) (.v 47)⟩,
    ⟨some 49, none, none, .objs [], .pk (.v 43) (.c (.sc (.bool true))) (.v 48)⟩,
    ⟨some 50, none, none, .objs [], .mv (.v 49)⟩,
    ⟨some 51, some (50, false), none, .objs [], .fa 2 (.v 4)⟩,
    ⟨some 52, some (50, false), none, .objs [(.v 51)], .ld false 1 (.v 51)⟩,
    ⟨some 53, some (50, false), none, .objs [], .bin .gtr false (.v 52) (.c (.sc (.int .i64 1099511627776)))⟩,
    ⟨some 54, none, none, .objs [], .pk (.v 50) (.c (.sc (.bool true))) (.v 53)⟩]))))) <|
    .cond (.v 54) (.seq (.ops ([
      ⟨some 2, none, none, .objs [], .mv (.c (.sc (.bool false)))⟩])) <|
      .ret) (.nop))) <|
  .ops ([
  ⟨some 9, none, none, .objs [], .mv (.v 3)⟩,
  ⟨some 10, none, none, .objs [], .bin .add false (.v 9) (.c (.sc (.int .i64 1)))⟩,
  ⟨some 3, none, none, .objs [], .mv (.v 10)⟩])
noncomputable def il13l0 : C := il13l0b
theorem il13l0_go {P : Program} {pol : Pol} {K : Oracle} {I : Inl} {n : Nat} {f : FuncId} {R : Xit → FEnv → Heap → Prop} {e : FEnv} {h : Heap} : wc P pol K I n f il13l0 R e h = wc P pol K I n f il13l0b R e h := (fun x => x) rfl

noncomputable def il13c : C :=
  .seq (.ops ([
  ⟨some 2, none, none, .objs [], .mv (.c (.sc (.bool false)))⟩])) <|
  .seq (.seq (.ops ([
  ⟨some 3, none, none, .objs [], .mv (.c (.sc (.int .i64 0)))⟩])) <|
  .block 0 (.loop (some [0, 3]) il13l0)) <|
  .seq (.ops ([
  ⟨some 55, none, none, .objs [], .mv (.v 0)⟩,
  ⟨some 56, none, none, .objs [], .lenS (.v 55)⟩,
  ⟨some 57, none, none, .objs [], .bin .leq false (.v 56) (.c (.sc (.int .i64 12)))⟩,
  ⟨some 2, none, none, .objs [], .mv (.v 57)⟩])) <|
  .ret

theorem il13_eq : cFn Tryd.prog pol 13 = some ⟨58, il13c, [(2, none)]⟩ := by kernel_rfl

noncomputable def il14l0b : C :=
  .seq (.seq (.ops ([
  ⟨some 5, none, none, .objs [], .mv (.v 3)⟩,
  ⟨some 6, none, none, .objs [], .mv (.v 0)⟩,
  ⟨some 7, none, none, .objs [], .lenS (.v 6)⟩,
  ⟨some 8, none, none, .objs [], .bin .lss false (.v 5) (.v 7)⟩])) <|
  .cond (.v 8) (.nop) (.exit 0)) <|
  .seq (.block 1 (.seq (.ops ([
    ⟨some 11, none, none, .objs [], .mv (.v 0)⟩,
    ⟨some 12, none, none, .objs [], .mv (.v 3)⟩,
    ⟨some 13, none, none, .objs [], .iaS 4 (.v 11) (.v 12)⟩,
    ⟨some 14, none, none, .objs [], .ld true 4 (.v 13)⟩,
    ⟨some 4, none, none, .objs [], .nw 4 (.agg [(.sc (.int .i64 0)), (.sc (.int .i64 0)), (.sc (.int .i64 0)), (.sc (.int .i64 0))])⟩,
    ⟨none, none, none, .objs [], .st 4 (.v 4) (.v 14)⟩])) <|
    .seq (.opsD [] ([
    ⟨some 15, none, none, .objs [], .fa 0 (.v 4)⟩,
    ⟨some 16, none, none, .objs [(.v 15)], .ld false 1 (.v 15)⟩,
    ⟨some 17, none, none, .objs [], .bin .neq false (.v 16) (.c (.sc (.int .i64 1)))⟩,
    ⟨some 18, none, none, .objs [], .mv (.v 17)⟩] ++ mkL [0, 3, 4, 18] ([
    ⟨some 19, some (18, true), none, .objs [], .fa 0 (.v 4)⟩,
    ⟨some 20, some (18, true), none, .objs [(.v 19)], .ld false 1 (.v 19)⟩,
    ⟨some 21, some (18, true), none, .objs [], .bin .neq false (.v 20) (.c (.sc (.int .i64 2)))⟩,
    ⟨some 22, none, none, .objs [], .pk (.v 18) (.v 21) (.c (.sc (.bool false)))⟩,
    ⟨some 23, none, none, .objs [], .mv (.v 22)⟩,
    ⟨some 24, some (23, false), none, .objs [], .fa 1 (.v 4)⟩,
    ⟨some 25, some (23, false), none, .objs [(.v 24)], .ld false 1 (.v 24)⟩,
    ⟨some 26, some (23, false), none, .objs [], .bin .lss false (.v 25) (.c (.sc (.int .i64 0)))⟩,
    ⟨some 27, none, none, .objs [], .pk (.v 23) (.c (.sc (.bool true))) (.v 26)⟩,
    ⟨some 28, none, none, .objs [], .mv (.v 27)⟩,
    ⟨some 29, some (28, false), none, .objs [], .fa 1 (.v 4)⟩,
    ⟨some 30, some (28, false), none, .objs [(.v 29)], .ld false 1 (.v 29)⟩,
    ⟨some 31, some (28, false), none, .objs [], .bin .gtr false (.v 30) (.c (.sc (.int .i64 4095)))⟩,
    ⟨some 32, none, none, .objs [], .pk (.v 28) (.c (.sc (.bool true))) (.v 31)⟩] ++ mkL [0, 3, 4, 32] ([
    ⟨some 33, none, none, .objs [], .mv (.v 32)⟩,
    ⟨some 34, some (33, false), none, .objs [], .fa 2 (.v 4)⟩,
    ⟨some 35, some (33, false), none, .objs [(.v 34)], .ld false 1 (.v 34)⟩,
    ⟨some 36, some (33, false), none, .objs [], .bin .lss false (.v 35) (.c (.sc (.int .i64 0)))⟩,
    ⟨some 37, none, none, .objs [], .pk (.v 33) (.c (.sc (.bool true))) (.v 36)⟩,
    ⟨some 38, none, none, .objs [], .mv (.v 37)⟩,
    ⟨some 39, some (38, false), none, .objs [], .fa 2 (.v 4)⟩,
    ⟨some 40, some (38, false), none, .objs [(.v 39)], .ld false 1 (.v 39)⟩,
    ⟨some 41, some (38, false), none, .objs [], .bin .gtr false (.v 40) (.c (.sc (.int .i64 65535)))⟩,
    ⟨some 42, none, none, .objs [], .pk (.v 38) (.c (.sc (.bool true))) (.v 41)⟩,
    ⟨some 43, none, none, .objs [], .mv (.v 42)⟩,
    ⟨some 44, some (43, false), none, .objs [], .fa 3 (.v 4)⟩,
    ⟨some 45, some (43, false), none, .objs [(.v 44)], .ld false 1 (.v 44)⟩,
    ⟨some 46, some (43, false), none, .objs [], .bin .lss false (.v 45) (.c (.sc (.int .i64 0)))⟩] ++ mkL [0, 3, 4, 43, 46] ([
    ⟨some 47, none, none, .objs [], .pk (.v 43) (.c (.sc (.bool true))) (.v 46)⟩,
    ⟨some 48, none, none, .objs [], .mv (.v 47)⟩,
    ⟨some 49, some (48, false), none, .objs [], .fa 3 (.v 4)⟩,
    ⟨some 50, some (48, false), none, .objs [(.v 49)], .ld false 1 (.v 49)⟩,
    ⟨some 51, some (48, false), none, .objs [], .bin .gtr false (.v 50) (.c (.sc (.int .i64 1099511627776)))⟩,
    ⟨some 52, none, none, .objs [], .pk (.v 48) (.c (.sc (.bool true))) (.v 51)⟩,
    ⟨some 53, none, none, .objs [], .mv (.v 52)⟩,
    ⟨some 54, some (53, false), none, .objs [], .mv (.v 3)⟩,
    ⟨some 55, some (53, false), none, .objs [], .bin .gtr false (.v 54) (.c (.sc (.int .i64 0)))⟩,
    ⟨some 56, some (53, false), none, .objs [], .mv (.v 55)⟩,
    ⟨some 57, some (56, true), none, .objs [], .mv (.v 0)⟩,
    ⟨some 58, some (56, true), none, .objs [], .mv (.v 3)⟩,
    ⟨some 59, some (56, true), none, .objs [], .bin .sub false (.v 58) (.c (.sc (.int .i64 1)))⟩,
    ⟨some 60, some (56, true), none, .objs [], .iaS 4 (.v 57) (.v 59)⟩] ++ mkL [0, 3, 4, 53, 56, 60] ([
    ⟨some 61, some (56, true), none, .objs [], .fa 3 (.v 60)⟩,
    ⟨some 62, some (56, true), none, .objs [(.v 61)], .ld false 1 (.v 61)⟩,
    ⟨some 63, some (56, true), none, .objs [], .fa 3 (.v 4)⟩,
    ⟨some 64, some (56, true), none, .objs [(.v 63)], .ld false 1 (.v 63)⟩,
    ⟨some 65, some (56, true), none, .objs [], .bin .gtr false (.v 62) (.v 64)⟩,
    ⟨some 66, some (53, false), none, .objs [], .pk (.v 56) (.v 65) (.c (.sc (.bool false)))⟩,
    ⟨some 67, none, none, .objs [], .pk (.v 53) (.c (.sc (.bool true))) (.v 66)⟩])))))) <|
    .cond (.v 67) (.seq (.ops ([
      ⟨some 2, none, none, .objs [], .mv (.c (.sc (.bool false)))⟩])) <|
      .ret) (.nop))) <|
  .ops ([
  ⟨some 9, none, none, .objs [], .mv (.v 3)⟩,
  ⟨some 10, none, none, .objs [], .bin .add false (.v 9) (.c (.sc (.int .i64 1)))⟩,
  ⟨some 3, none, none, .objs [], .mv (.v 10)⟩])
noncomputable def il14l0 : C := il14l0b
theorem il14l0_go {P : Program} {pol : Pol} {K : Oracle} {I : Inl} {n : Nat} {f : FuncId} {R : Xit → FEnv → Heap → Prop} {e : FEnv} {h : Heap} : wc P pol K I n f il14l0 R e h = wc P pol K I n f il14l0b R e h := (fun x => x) rfl

noncomputable def il14c : C :=
  .seq (.ops ([
  ⟨some 2, none, none, .objs [], .mv (.c (.sc (.bool false)))⟩])) <|
  .seq (.seq (.ops ([
  ⟨some 3, none, none, .objs [], .mv (.c (.sc (.int .i64 0)))⟩])) <|
  .block 0 (.loop (some [0, 3]) il14l0)) <|
  .seq (.ops ([
  ⟨some 68, none, none, .objs [], .mv (.v 0)⟩,
  ⟨some 69, none, none, .objs [], .lenS (.v 68)⟩,
  ⟨some 70, none, none, .objs [], .bin .leq false (.v 69) (.c (.sc (.int .i64 4096)))⟩,
  ⟨some 2, none, none, .objs [], .mv (.v 70)⟩])) <|
  .ret

theorem il14_eq : cFn Tryd.prog pol 14 = some ⟨71, il14c, [(2, none)]⟩ := by kernel_rfl

noncomputable def il16l0b : C :=
  .seq (.ops ([
  ⟨some 28, none, none, .objs [], .bin .lss false (.v 27) (.v 26)⟩])) <|
  .seq (.cond (.v 28) (.nop) (.exit 0)) <|
  .seq (.block 1 (.seq (.ops ([
    ⟨some 29, none, none, .objs [], .iaS 4 (.v 25) (.v 27)⟩,
    ⟨some 30, none, none, .objs [], .ld true 4 (.v 29)⟩,
    ⟨some 10, none, none, .objs [], .nw 4 (.agg [(.sc (.int .i64 0)), (.sc (.int .i64 0)), (.sc (.int .i64 0)), (.sc (.int .i64 0))])⟩,
    ⟨none, none, none, .objs [], .st 4 (.v 10) (.v 30)⟩])) <|
    .seq (.seq (.ops ([
    ⟨some 31, none, none, .objs [], .fa 1 (.v 10)⟩,
    ⟨some 32, none, none, .objs [], .ld false 1 (.v 31)⟩,
    ⟨some 33, none, none, .objs [], .mv (.v 1)⟩,
    ⟨some 34, none, none, .objs [], .bin .neq false (.v 32) (.v 33)⟩])) <|
    .cond (.v 34) (.exit 1) (.nop)) <|
    .seq (.ops ([
    ⟨some 36, none, none, .objs [], .mv (.v 8)⟩,
    ⟨some 37, none, none, .objs [], .ld true 4 (.v 10)⟩,
    ⟨some 38, none, none, .objs [], .call (.c (.fn (.func 35) [] [])) [(.v 37)]⟩,
    ⟨some 39, none, none, .objs [], .raw (opOf Tryd.prog 16 12 3)⟩,
    ⟨some 35, none, none, .objs [], .mv (.v 39)⟩] ++ mkL [1, 7, 8, 10, 25, 26, 27, 35] ([
    ⟨some 40, none, none, .objs [], .ex (.v 35) 0⟩,
    ⟨some 41, none, none, .objs [], .ex (.v 35) 1⟩,
    ⟨some 11, none, none, .objs [], .mv (.v 40)⟩,
    ⟨some 12, none, none, .objs [], .mv (.v 41)⟩]))) <|
    .block 2 (.seq (.ops ([
      ⟨some 43, none, none, .objs [], .fa 0 (.v 10)⟩,
      ⟨some 44, none, none, .objs [], .ld false 1 (.v 43)⟩,
      ⟨some 45, none, none, .objs [], .bin .eql false (.v 44) (.c (.sc (.int .i64 1)))⟩,
      ⟨some 46, none, none, .objs [], .mv (.v 45)⟩,
      ⟨some 47, some (46, true), none, .objs [], .mv (.v 12)⟩,
      ⟨some 48, some (46, true), none, .objs [], .nt (.v 47)⟩,
      ⟨some 49, none, none, .objs [], .pk (.v 46) (.v 48) (.c (.sc (.bool false)))⟩,
      ⟨some 42, none, none, .objs [], .mv (.v 49)⟩])) <|
      .cond (.v 42) (.opsD [(2, 4)] ([
        ⟨some 50, none, none, .objs [], .mv (.v 8)⟩,
        ⟨some 51, none, none, .objs [(.v 10)], .ld true 4 (.v 10)⟩] ++ mkL [1, 7, 8, 10, 25, 26, 27, 50, 51] ([
        ⟨some 52, none, none, .cal (.c (.fn (.func 35) [] [])) [(.v 51)], .call (.c (.fn (.func 35) [] [])) [(.v 51)]⟩,
        ⟨some 53, none, none, .objs [], .fa 3 (.v 10)⟩,
        ⟨some 54, none, none, .objs [(.v 53)], .ld false 1 (.v 53)⟩,
        ⟨none, none, none, .objs [(.v 50)], .raw (opOf Tryd.prog 16 14 5)⟩]))) (.seq (.ops ([
        ⟨some 56, none, none, .objs [], .fa 0 (.v 10)⟩,
        ⟨some 57, none, none, .objs [], .ld false 1 (.v 56)⟩] ++ mkL [1, 7, 8, 10, 11, 12, 25, 26, 27, 57] ([
        ⟨some 58, none, none, .objs [], .bin .eql false (.v 57) (.c (.sc (.int .i64 2)))⟩,
        ⟨some 59, none, none, .objs [], .mv (.v 58)⟩,
        ⟨some 60, some (59, true), none, .objs [], .mv (.v 12)⟩,
        ⟨some 61, none, none, .objs [], .pk (.v 59) (.v 60) (.c (.sc (.bool false)))⟩,
        ⟨some 55, none, none, .objs [], .mv (.v 61)⟩]))) <|
        .cond (.v 55) (.ops ([
          ⟨some 62, none, none, .objs [], .mv (.v 7)⟩,
          ⟨some 63, none, none, .objs [], .fa 3 (.v 10)⟩,
          ⟨some 64, none, none, .objs [], .ld false 1 (.v 63)⟩,
          ⟨some 65, none, none, .objs [], .mv (.v 11)⟩,
          ⟨some 66, none, none, .objs [], .bin .sub false (.v 64) (.v 65)⟩,
          ⟨some 67, none, none, .objs [], .bs false 1 (.sc (.int .i64 0)) 1 [(0, (.v 66))]⟩,
          ⟨some 68, none, none, .objs [], .app 1 8 (.v 62) (.v 67)⟩,
          ⟨some 7, none, none, .objs [], .gmv 1 (.v 68)⟩])) (.nop))))) <|
  .ops ([
  ⟨some 69, none, none, .objs [], .bin .add false (.v 27) (.c (.sc (.int .i64 1)))⟩] ++ mkL [1, 7, 8, 25, 26, 69] ([
  ⟨some 27, none, none, .objs [], .mv (.v 69)⟩]))
noncomputable def il16l0 : C := il16l0b
theorem il16l0_go {P : Program} {pol : Pol} {K : Oracle} {I : Inl} {n : Nat} {f : FuncId} {R : Xit → FEnv → Heap → Prop} {e : FEnv} {h : Heap} : wc P pol K I n f il16l0 R e h = wc P pol K I n f il16l0b R e h := (fun x => x) rfl

noncomputable def il16c : C :=
  .seq (.ops ([
  ⟨some 4, none, none, .objs [], .mv (.c (.sc (.slice none 0 0)))⟩,
  ⟨some 5, none, none, .objs [], .mv (.c (.sc (.int .i64 0)))⟩])) <|
  .seq (.seq (.ops ([
  ⟨some 13, none, none, .objs [], .mv (.v 0)⟩,
  ⟨some 14, none, none, .objs [], .call (.c (.fn (.func 29) [] [])) [(.v 13)]⟩,
  ⟨some 6, none, none, .objs [], .mv (.v 14)⟩])) <|
  .seq (.ops ([
  ⟨some 15, none, none, .objs [], .mv (.v 6)⟩,
  ⟨some 16, none, none, .objs [], .bin .neq false (.v 15) (.c (.sc (.int .i64 0)))⟩])) <|
  .cond (.v 16) (.seq (.ops ([
    ⟨some 17, none, none, .objs [], .mv (.v 6)⟩,
    ⟨some 4, none, none, .objs [], .mv (.c (.sc (.slice none 0 0)))⟩,
    ⟨some 5, none, none, .objs [], .mv (.v 17)⟩])) <|
    .ret) (.nop)) <|
  .seq (.seq (.ops ([
  ⟨some 18, none, none, .objs [], .mv (.v 1)⟩,
  ⟨some 19, none, none, .objs [], .bin .lss false (.v 18) (.c (.sc (.int .i64 0)))⟩,
  ⟨some 20, none, none, .objs [], .mv (.v 19)⟩,
  ⟨some 21, some (20, false), none, .objs [], .mv (.v 1)⟩] ++ mkL [0, 1, 20, 21] ([
  ⟨some 22, some (20, false), none, .objs [], .bin .gtr false (.v 21) (.c (.sc (.int .i64 4095)))⟩,
  ⟨some 23, none, none, .objs [], .pk (.v 20) (.c (.sc (.bool true))) (.v 22)⟩]))) <|
  .cond (.v 23) (.seq (.ops ([
    ⟨some 4, none, none, .objs [], .mv (.c (.sc (.slice none 0 0)))⟩,
    ⟨some 5, none, none, .objs [], .mv (.c (.sc (.int .i64 2)))⟩])) <|
    .ret) (.nop)) <|
  .seq (.ops ([
  ⟨some 7, none, none, .objs [], .gmv 1 (.c (.sc (.slice none 0 0)))⟩])) <|
  .seq (.ops ([
  ⟨some 24, none, none, .objs [], .raw (opOf Tryd.prog 16 7 0)⟩,
  ⟨some 8, none, none, .objs [], .mv (.v 24)⟩])) <|
  .seq (.seq (.ops ([
  ⟨some 25, none, none, .objs [], .mv (.v 0)⟩,
  ⟨some 26, none, none, .objs [], .lenS (.v 25)⟩,
  ⟨some 27, none, none, .objs [], .mv (.c (.sc (.int .i64 0)))⟩])) <|
  .block 0 (.loop (some [1, 7, 8, 25, 26, 27]) il16l0)) <|
  .seq (.ops ([
  ⟨some 70, none, none, .objs [], .mv (.v 7)⟩,
  ⟨some 4, none, none, .objs [], .mv (.v 70)⟩,
  ⟨some 5, none, none, .objs [], .mv (.c (.sc (.int .i64 0)))⟩])) <|
  .ret

theorem il16_eq : cFn Tryd.prog pol 16 = some ⟨71, il16c, [(4, none), (5, none)]⟩ := by kernel_rfl
theorem raw16_7_0 {e : FEnv} {h : Heap} : iStep Tryd.prog pol 16 e h (.raw (opOf Tryd.prog 16 7 0)) = some (.val (.mp h.length) (h ++ [.map []])) := raw_makeMap (t := 87) (by kernel_rfl)
theorem raw16_12_3 {e : FEnv} {h : Heap} : iStep Tryd.prog pol 16 e h (.raw (opOf Tryd.prog 16 12 3)) = vOf h (lkV Tryd.prog 87 true h (Src.get e (.v 36)) (Src.get e (.v 38))) := raw_lookup (x := (.tmp 36)) (ix := (.tmp 38)) (by kernel_rfl)
theorem raw16_14_5 {e : FEnv} {h : Heap} : iStep Tryd.prog pol 16 e h (.raw (opOf Tryd.prog 16 14 5)) = hOf (upV Tryd.prog 87 h (Src.get e (.v 50)) (Src.get e (.v 52)) (Src.get e (.v 54))) := raw_update (m := (.tmp 50)) (k := (.tmp 52)) (x := (.tmp 54)) (by kernel_rfl)

noncomputable def il17l0b : C :=
  .seq (.seq (.ops ([
  ⟨some 8, none, none, .objs [], .mv (.v 6)⟩,
  ⟨some 9, none, none, .objs [], .mv (.v 0)⟩,
  ⟨some 10, none, none, .objs [], .lenS (.v 9)⟩,
  ⟨some 11, none, none, .objs [], .bin .lss false (.v 8) (.v 10)⟩])) <|
  .cond (.v 11) (.nop) (.exit 0)) <|
  .seq (.block 1 (.seq (.seq (.ops ([
    ⟨some 14, none, none, .objs [], .mv (.v 0)⟩,
    ⟨some 15, none, none, .objs [], .mv (.v 6)⟩,
    ⟨some 16, none, none, .objs [], .iaS 4 (.v 14) (.v 15)⟩,
    ⟨some 17, none, none, .objs [], .fa 0 (.v 16)⟩,
    ⟨some 18, none, none, .objs [], .ld false 1 (.v 17)⟩,
    ⟨some 19, none, none, .objs [], .bin .neq false (.v 18) (.c (.sc (.int .i64 2)))⟩,
    ⟨some 20, none, none, .objs [], .mv (.v 19)⟩,
    ⟨some 21, some (20, false), none, .objs [], .mv (.v 0)⟩,
    ⟨some 22, some (20, false), none, .objs [], .mv (.v 6)⟩,
    ⟨some 23, some (20, false), none, .objs [], .iaS 4 (.v 21) (.v 22)⟩] ++ mkL [0, 1, 5, 6, 20, 23] ([
    ⟨some 24, some (20, false), none, .objs [], .fa 1 (.v 23)⟩,
    ⟨some 25, some (20, false), none, .objs [], .ld false 1 (.v 24)⟩,
    ⟨some 26, some (20, false), none, .objs [], .mv (.v 1)⟩,
    ⟨some 27, some (20, false), none, .objs [], .bin .neq false (.v 25) (.v 26)⟩,
    ⟨some 28, none, none, .objs [], .pk (.v 20) (.c (.sc (.bool true))) (.v 27)⟩]))) <|
    .cond (.v 28) (.exit 1) (.nop)) <|
    .seq (.ops ([
    ⟨some 29, none, none, .objs [], .mv (.v 0)⟩,
    ⟨some 30, none, none, .objs [], .mv (.v 6)⟩,
    ⟨some 31, none, none, .objs [], .mv (.v 1)⟩,
    ⟨some 32, none, none, .objs [], .mv (.v 0)⟩,
    ⟨some 33, none, none, .objs [], .mv (.v 6)⟩,
    ⟨some 34, none, none, .objs [], .iaS 4 (.v 32) (.v 33)⟩,
    ⟨some 35, none, none, .objs [], .fa 2 (.v 34)⟩,
    ⟨some 36, none, none, .objs [], .ld false 1 (.v 35)⟩,
    ⟨some 37, none, none, .objs [], .call (.c (.fn (.func 34) [] [])) [(.v 29), (.v 30), (.c (.sc (.int .i64 1))), (.v 31), (.v 36)]⟩] ++ mkL [0, 1, 5, 6, 37] ([
    ⟨some 7, none, none, .objs [], .mv (.v 37)⟩]))) <|
    .seq (.ops ([
    ⟨some 38, none, none, .objs [], .mv (.v 7)⟩,
    ⟨some 39, none, none, .objs [], .bin .geq false (.v 38) (.c (.sc (.int .i64 0)))⟩])) <|
    .cond (.v 39) (.opsD [] ([
      ⟨some 40, none, none, .objs [], .mv (.v 5)⟩,
      ⟨some 41, none, none, .objs [], .mv (.v 0)⟩,
      ⟨some 42, none, none, .objs [], .mv (.v 6)⟩,
      ⟨some 43, none, none, .objs [], .iaS 4 (.v 41) (.v 42)⟩,
      ⟨some 44, none, none, .objs [], .fa 3 (.v 43)⟩,
      ⟨some 45, none, none, .objs [(.v 44)], .ld false 1 (.v 44)⟩,
      ⟨some 46, none, none, .objs [], .mv (.v 0)⟩,
      ⟨some 47, none, none, .objs [], .mv (.v 7)⟩,
      ⟨some 48, none, none, .objs [], .iaS 4 (.v 46) (.v 47)⟩,
      ⟨some 49, none, none, .objs [], .fa 3 (.v 48)⟩,
      ⟨some 50, none, none, .objs [(.v 49)], .ld false 1 (.v 49)⟩] ++ mkL [0, 1, 6, 40, 45, 50] ([
      ⟨some 51, none, none, .objs [], .bin .sub false (.v 45) (.v 50)⟩,
      ⟨some 52, none, none, .objs [], .bs false 1 (.sc (.int .i64 0)) 1 [(0, (.v 51))]⟩,
      ⟨some 53, none, none, .objs [(.v 40), (.v 52)], .app 1 8 (.v 40) (.v 52)⟩,
      ⟨some 5, none, none, .objs [], .gmv 1 (.v 53)⟩]))) (.nop))) <|
  .ops ([
  ⟨some 12, none, none, .objs [], .mv (.v 6)⟩,
  ⟨some 13, none, none, .objs [], .bin .add false (.v 12) (.c (.sc (.int .i64 1)))⟩,
  ⟨some 6, none, none, .objs [], .mv (.v 13)⟩])
noncomputable def il17l0 : C := il17l0b
theorem il17l0_go {P : Program} {pol : Pol} {K : Oracle} {I : Inl} {n : Nat} {f : FuncId} {R : Xit → FEnv → Heap → Prop} {e : FEnv} {h : Heap} : wc P pol K I n f il17l0 R e h = wc P pol K I n f il17l0b R e h := (fun x => x) rfl

noncomputable def il17c : C :=
  .seq (.ops ([
  ⟨some 4, none, none, .objs [], .mv (.c (.sc (.slice none 0 0)))⟩])) <|
  .seq (.ops ([
  ⟨some 5, none, none, .objs [], .gmv 1 (.c (.sc (.slice none 0 0)))⟩])) <|
  .seq (.seq (.ops ([
  ⟨some 6, none, none, .objs [], .mv (.c (.sc (.int .i64 0)))⟩])) <|
  .block 0 (.loop (some [0, 1, 5, 6]) il17l0)) <|
  .seq (.ops ([
  ⟨some 54, none, none, .objs [], .mv (.v 5)⟩,
  ⟨some 4, none, none, .objs [], .mv (.v 54)⟩])) <|
  .ret

theorem il17_eq : cFn Tryd.prog pol 17 = some ⟨55, il17c, [(4, none)]⟩ := by kernel_rfl

noncomputable def il18l0b : C :=
  .seq (.ops ([
  ⟨some 14, none, none, .objs [], .bin .lss false (.v 13) (.v 12)⟩])) <|
  .seq (.cond (.v 14) (.nop) (.exit 0)) <|
  .seq (.block 1 (.seq (.ops ([
    ⟨some 15, none, none, .objs [], .mv (.v 13)⟩,
    ⟨some 5, none, none, .objs [], .mv (.v 15)⟩])) <|
    .seq (.opsD [] ([
    ⟨some 16, none, none, .objs [], .mv (.v 0)⟩,
    ⟨some 17, none, none, .objs [], .mv (.v 5)⟩,
    ⟨some 18, none, none, .objs [], .iaS 1 (.v 16) (.v 17)⟩,
    ⟨some 19, none, none, .objs [(.v 18)], .ld false 1 (.v 18)⟩,
    ⟨some 20, none, none, .objs [], .mv (.v 1)⟩,
    ⟨some 21, none, none, .objs [], .mv (.v 5)⟩,
    ⟨some 22, none, none, .objs [], .iaS 1 (.v 20) (.v 21)⟩,
    ⟨some 23, none, none, .objs [(.v 22)], .ld false 1 (.v 22)⟩,
    ⟨some 24, none, none, .objs [], .bin .neq false (.v 19) (.v 23)⟩])) <|
    .cond (.v 24) (.seq (.ops ([
      ⟨some 4, none, none, .objs [], .mv (.c (.sc (.bool false)))⟩])) <|
      .ret) (.nop))) <|
  .ops ([
  ⟨some 25, none, none, .objs [], .bin .add false (.v 13) (.c (.sc (.int .i64 1)))⟩] ++ mkL [0, 1, 12, 25] ([
  ⟨some 13, none, none, .objs [], .mv (.v 25)⟩]))
noncomputable def il18l0 : C := il18l0b
theorem il18l0_go {P : Program} {pol : Pol} {K : Oracle} {I : Inl} {n : Nat} {f : FuncId} {R : Xit → FEnv → Heap → Prop} {e : FEnv} {h : Heap} : wc P pol K I n f il18l0 R e h = wc P pol K I n f il18l0b R e h := (fun x => x) rfl

noncomputable def il18c : C :=
  .seq (.ops ([
  ⟨some 4, none, none, .objs [], .mv (.c (.sc (.bool false)))⟩])) <|
  .seq (.seq (.ops ([
  ⟨some 6, none, none, .objs [], .mv (.v 0)⟩,
  ⟨some 7, none, none, .objs [], .lenS (.v 6)⟩,
  ⟨some 8, none, none, .objs [], .mv (.v 1)⟩,
  ⟨some 9, none, none, .objs [], .lenS (.v 8)⟩,
  ⟨some 10, none, none, .objs [], .bin .neq false (.v 7) (.v 9)⟩])) <|
  .cond (.v 10) (.seq (.ops ([
    ⟨some 4, none, none, .objs [], .mv (.c (.sc (.bool false)))⟩])) <|
    .ret) (.nop)) <|
  .seq (.seq (.ops ([
  ⟨some 11, none, none, .objs [], .mv (.v 0)⟩,
  ⟨some 12, none, none, .objs [], .lenS (.v 11)⟩,
  ⟨some 13, none, none, .objs [], .mv (.c (.sc (.int .i64 0)))⟩])) <|
  .block 0 (.loop (some [0, 1, 12, 13]) il18l0)) <|
  .seq (.ops ([
  ⟨some 4, none, none, .objs [], .mv (.c (.sc (.bool true)))⟩])) <|
  .ret

theorem il18_eq : cFn Tryd.prog pol 18 = some ⟨26, il18c, [(4, none)]⟩ := by kernel_rfl

noncomputable def il19l0b : C :=
  .seq (.ops ([
  ⟨some 31, none, none, .objs [], .bin .lss false (.v 30) (.c (.sc (.int .i64 3)))⟩])) <|
  .seq (.cond (.v 31) (.nop) (.exit 0)) <|
  .seq (.block 1 (.seq (.ops ([
    ⟨some 32, none, none, .objs [], .ixA false 1 3 1 (.v 29) (.v 30)⟩,
    ⟨some 6, none, none, .objs [], .mv (.v 32)⟩])) <|
    .ops ([
    ⟨some 33, none, none, .objs [], .mv (.v 4)⟩,
    ⟨some 34, none, none, .objs [], .mv (.v 6)⟩,
    ⟨some 35, none, none, .objs [], .call (.c (.fn (.func 36) [] [])) [(.v 34)]⟩,
    ⟨some 36, none, none, .objs [], .bin .add false (.c (.sc (.string ⟨#[32]⟩))) (.v 35)⟩,
    ⟨some 37, none, none, .objs [], .bin .add false (.v 33) (.v 36)⟩,
    ⟨some 4, none, none, .objs [], .mv (.v 37)⟩]))) <|
  .ops ([
  ⟨some 38, none, none, .objs [], .bin .add false (.v 30) (.c (.sc (.int .i64 1)))⟩,
  ⟨some 30, none, none, .objs [], .mv (.v 38)⟩])
noncomputable def il19l0 : C := il19l0b
theorem il19l0_go {P : Program} {pol : Pol} {K : Oracle} {I : Inl} {n : Nat} {f : FuncId} {R : Xit → FEnv → Heap → Prop} {e : FEnv} {h : Heap} : wc P pol K I n f il19l0 R e h = wc P pol K I n f il19l0b R e h := (fun x => x) rfl

noncomputable def il19c : C :=
  .seq (.ops ([
  ⟨some 1, none, none, .objs [], .bx false (.v 0)⟩,
  ⟨some 2, none, none, .objs [], .mv (.c (.sc (.string ⟨#[]⟩)))⟩,
  ⟨some 3, none, none, .objs [], .mv (.c (.sc (.int .i64 0)))⟩])) <|
  .seq (.seq (.ops ([
  ⟨some 7, none, none, .objs [], .fa 0 (.v 1)⟩,
  ⟨some 8, none, none, .objs [], .ld false 1 (.v 7)⟩,
  ⟨some 9, none, none, .objs [], .bin .lss false (.v 8) (.c (.sc (.int .i64 0)))⟩,
  ⟨some 10, none, none, .objs [], .mv (.v 9)⟩,
  ⟨some 11, some (10, false), none, .objs [], .fa 0 (.v 1)⟩,
  ⟨some 12, some (10, false), none, .objs [], .ld false 1 (.v 11)⟩,
  ⟨some 13, some (10, false), none, .objs [], .bin .gtr false (.v 12) (.c (.sc (.int .i64 8)))⟩,
  ⟨some 14, none, none, .objs [], .pk (.v 10) (.c (.sc (.bool true))) (.v 13)⟩])) <|
  .cond (.v 14) (.seq (.ops ([
    ⟨some 2, none, none, .objs [], .mv (.c (.sc (.string ⟨#[]⟩)))⟩,
    ⟨some 3, none, none, .objs [], .mv (.c (.sc (.int .i64 2)))⟩])) <|
    .ret) (.nop)) <|
  .seq (.ops ([
  ⟨some 15, none, none, .objs [], .fa 0 (.v 1)⟩] ++ mkL [1, 15] ([
  ⟨some 16, none, none, .objs [], .ld false 1 (.v 15)⟩,
  ⟨some 17, none, none, .objs [], .iaA 9 1 (.c (.ip [(.sc (.string ⟨#[111, 107]⟩)), (.sc (.string ⟨#[117, 110, 107, 110, 111, 119, 110]⟩)), (.sc (.string ⟨#[97, 103, 97, 105, 110]⟩)), (.sc (.string ⟨#[117, 110, 115, 101, 110, 116]⟩)), (.sc (.string ⟨#[116, 119, 105, 99, 101]⟩)), (.sc (.string ⟨#[101, 97, 114, 108, 121]⟩)), (.sc (.string ⟨#[108, 97, 116, 101]⟩)), (.sc (.string ⟨#[111, 114, 100, 101, 114]⟩)), (.sc (.string ⟨#[108, 111, 115, 116]⟩))])) (.v 16)⟩,
  ⟨some 18, none, none, .objs [], .ld false 1 (.v 17)⟩,
  ⟨some 4, none, none, .objs [], .mv (.v 18)⟩]))) <|
  .seq (.seq (.ops ([
  ⟨some 19, none, none, .objs [], .fa 0 (.v 1)⟩,
  ⟨some 20, none, none, .objs [], .ld false 1 (.v 19)⟩,
  ⟨some 21, none, none, .objs [], .bin .eql false (.v 20) (.c (.sc (.int .i64 0)))⟩])) <|
  .cond (.v 21) (.seq (.ops ([
    ⟨some 22, none, none, .objs [], .mv (.v 4)⟩,
    ⟨some 2, none, none, .objs [], .mv (.v 22)⟩,
    ⟨some 3, none, none, .objs [], .mv (.c (.sc (.int .i64 0)))⟩])) <|
    .ret) (.nop)) <|
  .seq (.seq (.ops ([
  ⟨some 23, none, none, .objs [], .fa 1 (.v 1)⟩,
  ⟨some 24, none, none, .objs [], .ld false 1 (.v 23)⟩,
  ⟨some 25, none, none, .objs [], .fa 2 (.v 1)⟩,
  ⟨some 26, none, none, .objs [], .ld false 1 (.v 25)⟩] ++ mkL [1, 4, 24, 26] ([
  ⟨some 27, none, none, .objs [], .fa 3 (.v 1)⟩,
  ⟨some 28, none, none, .objs [], .ld false 1 (.v 27)⟩,
  ⟨some 29, none, none, .objs [], .bd [(.sc (.int .i64 0)), (.sc (.int .i64 0)), (.sc (.int .i64 0))] [(0, 1, (.v 24)), (1, 1, (.v 26)), (2, 1, (.v 28))]⟩,
  ⟨some 30, none, none, .objs [], .mv (.c (.sc (.int .i64 0)))⟩]))) <|
  .block 0 (.loop (some [4, 29, 30]) il19l0)) <|
  .seq (.ops ([
  ⟨some 39, none, none, .objs [], .mv (.v 4)⟩,
  ⟨some 2, none, none, .objs [], .mv (.v 39)⟩,
  ⟨some 3, none, none, .objs [], .mv (.c (.sc (.int .i64 0)))⟩])) <|
  .ret

theorem il19_eq : cFn Tryd.prog pol 19 = some ⟨40, il19c, [(2, none), (3, none)]⟩ := by kernel_rfl

noncomputable def il20c : C :=
  .seq (.ops ([
  ⟨some 1, none, none, .objs [], .bx false (.v 0)⟩,
  ⟨some 2, none, none, .objs [], .mv (.c (.sc (.string ⟨#[]⟩)))⟩])) <|
  .seq (.seq (.ops ([
  ⟨some 4, none, none, .objs [], .fa 0 (.v 1)⟩,
  ⟨some 5, none, none, .objs [], .ld false 1 (.v 4)⟩,
  ⟨some 6, none, none, .objs [], .bin .eql false (.v 5) (.c (.sc (.int .i64 0)))⟩])) <|
  .cond (.v 6) (.seq (.ops ([
    ⟨some 2, none, none, .objs [], .mv (.c (.sc (.string ⟨#[111, 107]⟩)))⟩])) <|
    .ret) (.nop)) <|
  .seq (.ops ([
  ⟨some 7, none, none, .objs [], .bd [(.sc (.string ⟨#[]⟩)), (.sc (.string ⟨#[]⟩)), (.sc (.string ⟨#[]⟩)), (.sc (.string ⟨#[]⟩)), (.sc (.string ⟨#[]⟩)), (.sc (.string ⟨#[]⟩)), (.sc (.string ⟨#[]⟩)), (.sc (.string ⟨#[]⟩))] [(0, 1, (.c (.sc (.string ⟨#[117, 110, 107, 110, 111, 119, 110]⟩)))), (1, 1, (.c (.sc (.string ⟨#[97, 103, 97, 105, 110]⟩)))), (2, 1, (.c (.sc (.string ⟨#[117, 110, 115, 101, 110, 116]⟩)))), (3, 1, (.c (.sc (.string ⟨#[116, 119, 105, 99, 101]⟩)))), (4, 1, (.c (.sc (.string ⟨#[101, 97, 114, 108, 121]⟩)))), (5, 1, (.c (.sc (.string ⟨#[108, 97, 116, 101]⟩)))), (6, 1, (.c (.sc (.string ⟨#[111, 114, 100, 101, 114]⟩)))), (7, 1, (.c (.sc (.string ⟨#[108, 111, 115, 116]⟩))))]⟩,
  ⟨some 8, none, none, .objs [], .fa 0 (.v 1)⟩,
  ⟨some 9, none, none, .objs [], .ld false 1 (.v 8)⟩,
  ⟨some 10, none, none, .objs [], .bin .sub false (.v 9) (.c (.sc (.int .i64 1)))⟩,
  ⟨some 11, none, none, .objs [], .ixA false 1 8 1 (.v 7) (.v 10)⟩,
  ⟨some 3, none, none, .objs [], .mv (.v 11)⟩])) <|
  .seq (.opsD [(4, 8), (4, 13), (9, 13)] ([
  ⟨some 12, none, none, .objs [], .mv (.v 3)⟩,
  ⟨some 13, none, none, .objs [], .bin .add false (.v 12) (.c (.sc (.string ⟨#[32]⟩)))⟩] ++ mkL [1, 13] ([
  ⟨some 14, none, none, .objs [], .fa 1 (.v 1)⟩,
  ⟨some 15, none, none, .objs [(.v 14)], .ld false 1 (.v 14)⟩,
  ⟨some 16, none, none, .cal (.c (.fn (.func 37) [] [])) [(.v 15)], .call (.c (.fn (.func 37) [] [])) [(.v 15)]⟩,
  ⟨some 17, none, none, .objs [], .bin .add false (.v 13) (.v 16)⟩,
  ⟨some 18, none, none, .objs [], .bin .add false (.v 17) (.c (.sc (.string ⟨#[32]⟩)))⟩,
  ⟨some 19, none, none, .objs [], .fa 2 (.v 1)⟩,
  ⟨some 20, none, none, .objs [(.v 19)], .ld false 1 (.v 19)⟩,
  ⟨some 21, none, none, .cal (.c (.fn (.func 37) [] [])) [(.v 20)], .call (.c (.fn (.func 37) [] [])) [(.v 20)]⟩,
  ⟨some 22, none, none, .objs [], .bin .add false (.v 18) (.v 21)⟩,
  ⟨some 23, none, none, .objs [], .bin .add false (.v 22) (.c (.sc (.string ⟨#[32]⟩)))⟩,
  ⟨some 24, none, none, .objs [], .fa 3 (.v 1)⟩,
  ⟨some 25, none, none, .objs [(.v 24)], .ld false 1 (.v 24)⟩,
  ⟨some 26, none, none, .cal (.c (.fn (.func 37) [] [])) [(.v 25)], .call (.c (.fn (.func 37) [] [])) [(.v 25)]⟩,
  ⟨some 27, none, none, .objs [], .bin .add false (.v 23) (.v 26)⟩] ++ mkL [27] ([
  ⟨some 2, none, none, .objs [], .mv (.v 27)⟩])))) <|
  .ret

theorem il20_eq : cFn Tryd.prog pol 20 = some ⟨28, il20c, [(2, none)]⟩ := by kernel_rfl

noncomputable def il26l0b : C :=
  .seq (.ops ([
  ⟨some 12, none, none, .objs [], .bin .lss false (.v 11) (.v 10)⟩])) <|
  .seq (.cond (.v 12) (.nop) (.exit 0)) <|
  .seq (.block 1 (.seq (.ops ([
    ⟨some 13, none, none, .objs [], .iaS 4 (.v 9) (.v 11)⟩,
    ⟨some 14, none, none, .objs [], .ld true 4 (.v 13)⟩,
    ⟨some 5, none, none, .objs [], .nw 4 (.agg [(.sc (.int .i64 0)), (.sc (.int .i64 0)), (.sc (.int .i64 0)), (.sc (.bool false))])⟩,
    ⟨none, none, none, .objs [], .st 4 (.v 5) (.v 14)⟩])) <|
    .seq (.seq (.ops ([
    ⟨some 15, none, none, .objs [], .fa 0 (.v 5)⟩,
    ⟨some 16, none, none, .objs [], .ld false 1 (.v 15)⟩,
    ⟨some 17, none, none, .objs [], .mv (.v 3)⟩,
    ⟨some 18, none, none, .objs [], .bin .leq false (.v 16) (.v 17)⟩,
    ⟨some 19, none, none, .objs [], .mv (.v 18)⟩,
    ⟨some 20, some (19, false), none, .objs [], .fa 0 (.v 5)⟩,
    ⟨some 21, some (19, false), none, .objs [], .ld false 1 (.v 20)⟩,
    ⟨some 22, some (19, false), none, .objs [], .bin .gtr false (.v 21) (.c (.sc (.int .i64 4095)))⟩,
    ⟨some 23, none, none, .objs [], .pk (.v 19) (.c (.sc (.bool true))) (.v 22)⟩] ++ mkL [5, 9, 10, 11, 23] ([
    ⟨some 24, none, none, .objs [], .mv (.v 23)⟩,
    ⟨some 25, some (24, false), none, .objs [], .fa 1 (.v 5)⟩,
    ⟨some 26, some (24, false), none, .objs [], .ld false 1 (.v 25)⟩,
    ⟨some 27, some (24, false), none, .objs [], .bin .lss false (.v 26) (.c (.sc (.int .i64 0)))⟩,
    ⟨some 28, none, none, .objs [], .pk (.v 24) (.c (.sc (.bool true))) (.v 27)⟩,
    ⟨some 29, none, none, .objs [], .mv (.v 28)⟩,
    ⟨some 30, some (29, false), none, .objs [], .fa 1 (.v 5)⟩,
    ⟨some 31, some (29, false), none, .objs [], .ld false 1 (.v 30)⟩,
    ⟨some 32, some (29, false), none, .objs [], .fa 2 (.v 5)⟩,
    ⟨some 33, some (29, false), none, .objs [], .ld false 1 (.v 32)⟩,
    ⟨some 34, some (29, false), none, .objs [], .bin .gtr false (.v 31) (.v 33)⟩,
    ⟨some 35, none, none, .objs [], .pk (.v 29) (.c (.sc (.bool true))) (.v 34)⟩,
    ⟨some 36, none, none, .objs [], .mv (.v 35)⟩,
    ⟨some 37, some (36, false), none, .objs [], .fa 2 (.v 5)⟩] ++ mkL [5, 9, 10, 11, 36, 37] ([
    ⟨some 38, some (36, false), none, .objs [], .ld false 1 (.v 37)⟩,
    ⟨some 39, some (36, false), none, .objs [], .bin .gtr false (.v 38) (.c (.sc (.int .i64 1099511627776)))⟩,
    ⟨some 40, none, none, .objs [], .pk (.v 36) (.c (.sc (.bool true))) (.v 39)⟩])))) <|
    .cond (.v 40) (.seq (.ops ([
      ⟨some 2, none, none, .objs [], .mv (.c (.sc (.int .i64 541)))⟩])) <|
      .ret) (.nop)) <|
    .ops ([
    ⟨some 41, none, none, .objs [], .fa 0 (.v 5)⟩,
    ⟨some 42, none, none, .objs [], .ld false 1 (.v 41)⟩,
    ⟨some 3, none, none, .objs [], .mv (.v 42)⟩]))) <|
  .ops ([
  ⟨some 43, none, none, .objs [], .bin .add false (.v 11) (.c (.sc (.int .i64 1)))⟩,
  ⟨some 11, none, none, .objs [], .mv (.v 43)⟩])
noncomputable def il26l0 : C := il26l0b
theorem il26l0_go {P : Program} {pol : Pol} {K : Oracle} {I : Inl} {n : Nat} {f : FuncId} {R : Xit → FEnv → Heap → Prop} {e : FEnv} {h : Heap} : wc P pol K I n f il26l0 R e h = wc P pol K I n f il26l0b R e h := (fun x => x) rfl

noncomputable def il26c : C :=
  .seq (.ops ([
  ⟨some 2, none, none, .objs [], .mv (.c (.sc (.int .i64 0)))⟩])) <|
  .seq (.seq (.ops ([
  ⟨some 6, none, none, .objs [], .mv (.v 0)⟩,
  ⟨some 7, none, none, .objs [], .lenS (.v 6)⟩,
  ⟨some 8, none, none, .objs [], .bin .gtr false (.v 7) (.c (.sc (.int .i64 12)))⟩])) <|
  .cond (.v 8) (.seq (.ops ([
    ⟨some 2, none, none, .objs [], .mv (.c (.sc (.int .i64 541)))⟩])) <|
    .ret) (.nop)) <|
  .seq (.ops ([
  ⟨some 3, none, none, .objs [], .mv (.c (.sc (.int .i64 0)))⟩])) <|
  .seq (.seq (.ops ([
  ⟨some 9, none, none, .objs [], .mv (.v 0)⟩,
  ⟨some 10, none, none, .objs [], .lenS (.v 9)⟩,
  ⟨some 11, none, none, .objs [], .mv (.c (.sc (.int .i64 0)))⟩])) <|
  .block 0 (.loop (some [3, 9, 10, 11]) il26l0)) <|
  .seq (.ops ([
  ⟨some 2, none, none, .objs [], .mv (.c (.sc (.int .i64 0)))⟩])) <|
  .ret

theorem il26_eq : cFn Tryd.prog pol 26 = some ⟨44, il26c, [(2, none)]⟩ := by kernel_rfl

noncomputable def il29l0b : C :=
  .seq (.ops ([
  ⟨some 12, none, none, .objs [], .bin .lss false (.v 11) (.v 10)⟩])) <|
  .seq (.cond (.v 12) (.nop) (.exit 0)) <|
  .seq (.block 1 (.seq (.ops ([
    ⟨some 13, none, none, .objs [], .iaS 4 (.v 9) (.v 11)⟩,
    ⟨some 14, none, none, .objs [], .ld true 4 (.v 13)⟩,
    ⟨some 5, none, none, .objs [], .nw 4 (.agg [(.sc (.int .i64 0)), (.sc (.int .i64 0)), (.sc (.int .i64 0)), (.sc (.int .i64 0))])⟩,
    ⟨none, none, none, .objs [], .st 4 (.v 5) (.v 14)⟩])) <|
    .seq (.seq (.ops ([
    ⟨some 15, none, none, .objs [], .fa 0 (.v 5)⟩,
    ⟨some 16, none, none, .objs [], .ld false 1 (.v 15)⟩,
    ⟨some 17, none, none, .objs [], .bin .neq false (.v 16) (.c (.sc (.int .i64 1)))⟩,
    ⟨some 18, none, none, .objs [], .mv (.v 17)⟩,
    ⟨some 19, some (18, true), none, .objs [], .fa 0 (.v 5)⟩,
    ⟨some 20, some (18, true), none, .objs [], .ld false 1 (.v 19)⟩,
    ⟨some 21, some (18, true), none, .objs [], .bin .neq false (.v 20) (.c (.sc (.int .i64 2)))⟩,
    ⟨some 22, none, none, .objs [], .pk (.v 18) (.v 21) (.c (.sc (.bool false)))⟩,
    ⟨some 23, none, none, .objs [], .mv (.v 22)⟩] ++ mkL [3, 5, 9, 10, 11, 23] ([
    ⟨some 24, some (23, false), none, .objs [], .fa 1 (.v 5)⟩,
    ⟨some 25, some (23, false), none, .objs [], .ld false 1 (.v 24)⟩,
    ⟨some 26, some (23, false), none, .objs [], .bin .lss false (.v 25) (.c (.sc (.int .i64 0)))⟩,
    ⟨some 27, none, none, .objs [], .pk (.v 23) (.c (.sc (.bool true))) (.v 26)⟩,
    ⟨some 28, none, none, .objs [], .mv (.v 27)⟩,
    ⟨some 29, some (28, false), none, .objs [], .fa 1 (.v 5)⟩,
    ⟨some 30, some (28, false), none, .objs [], .ld false 1 (.v 29)⟩,
    ⟨some 31, some (28, false), none, .objs [], .bin .gtr false (.v 30) (.c (.sc (.int .i64 4095)))⟩,
    ⟨some 32, none, none, .objs [], .pk (.v 28) (.c (.sc (.bool true))) (.v 31)⟩,
    ⟨some 33, none, none, .objs [], .mv (.v 32)⟩,
    ⟨some 34, some (33, false), none, .objs [], .fa 2 (.v 5)⟩,
    ⟨some 35, some (33, false), none, .objs [], .ld false 1 (.v 34)⟩,
    ⟨some 36, some (33, false), none, .objs [], .bin .lss false (.v 35) (.c (.sc (.int .i64 0)))⟩,
    ⟨some 37, none, none, .objs [], .pk (.v 33) (.c (.sc (.bool true))) (.v 36)⟩] ++ mkL [3, 5, 9, 10, 11, 37] ([
    ⟨some 38, none, none, .objs [], .mv (.v 37)⟩,
    ⟨some 39, some (38, false), none, .objs [], .fa 2 (.v 5)⟩,
    ⟨some 40, some (38, false), none, .objs [], .ld false 1 (.v 39)⟩,
    ⟨some 41, some (38, false), none, .objs [], .bin .geq false (.v 40) (.c (.sc (.int .i64 65536)))⟩,
    ⟨some 42, none, none, .objs [], .pk (.v 38) (.c (.sc (.bool true))) (.v 41)⟩,
    ⟨some 43, none, none, .objs [], .mv (.v 42)⟩,
    ⟨some 44, some (43, false), none, .objs [], .fa 3 (.v 5)⟩,
    ⟨some 45, some (43, false), none, .objs [], .ld false 1 (.v 44)⟩,
    ⟨some 46, some (43, false), none, .objs [], .mv (.v 3)⟩,
    ⟨some 47, some (43, false), none, .objs [], .bin .lss false (.v 45) (.v 46)⟩,
    ⟨some 48, none, none, .objs [], .pk (.v 43) (.c (.sc (.bool true))) (.v 47)⟩,
    ⟨some 49, none, none, .objs [], .mv (.v 48)⟩,
    ⟨some 50, some (49, false), none, .objs [], .fa 3 (.v 5)⟩,
    ⟨some 51, some (49, false), none, .objs [], .ld false 1 (.v 50)⟩] ++ mkL [5, 9, 10, 11, 49, 51] ([
    ⟨some 52, some (49, false), none, .objs [], .bin .gtr false (.v 51) (.c (.sc (.int .i64 1099511627776)))⟩,
    ⟨some 53, none, none, .objs [], .pk (.v 49) (.c (.sc (.bool true))) (.v 52)⟩]))))) <|
    .cond (.v 53) (.seq (.ops ([
      ⟨some 2, none, none, .objs [], .mv (.c (.sc (.int .i64 540)))⟩])) <|
      .ret) (.nop)) <|
    .ops ([
    ⟨some 54, none, none, .objs [], .fa 3 (.v 5)⟩,
    ⟨some 55, none, none, .objs [], .ld false 1 (.v 54)⟩,
    ⟨some 3, none, none, .objs [], .mv (.v 55)⟩]))) <|
  .ops ([
  ⟨some 56, none, none, .objs [], .bin .add false (.v 11) (.c (.sc (.int .i64 1)))⟩,
  ⟨some 11, none, none, .objs [], .mv (.v 56)⟩])
noncomputable def il29l0 : C := il29l0b
theorem il29l0_go {P : Program} {pol : Pol} {K : Oracle} {I : Inl} {n : Nat} {f : FuncId} {R : Xit → FEnv → Heap → Prop} {e : FEnv} {h : Heap} : wc P pol K I n f il29l0 R e h = wc P pol K I n f il29l0b R e h := (fun x => x) rfl

noncomputable def il29c : C :=
  .seq (.ops ([
  ⟨some 2, none, none, .objs [], .mv (.c (.sc (.int .i64 0)))⟩])) <|
  .seq (.seq (.ops ([
  ⟨some 6, none, none, .objs [], .mv (.v 0)⟩,
  ⟨some 7, none, none, .objs [], .lenS (.v 6)⟩,
  ⟨some 8, none, none, .objs [], .bin .gtr false (.v 7) (.c (.sc (.int .i64 4096)))⟩])) <|
  .cond (.v 8) (.seq (.ops ([
    ⟨some 2, none, none, .objs [], .mv (.c (.sc (.int .i64 540)))⟩])) <|
    .ret) (.nop)) <|
  .seq (.ops ([
  ⟨some 3, none, none, .objs [], .mv (.c (.sc (.int .i64 0)))⟩])) <|
  .seq (.seq (.ops ([
  ⟨some 9, none, none, .objs [], .mv (.v 0)⟩,
  ⟨some 10, none, none, .objs [], .lenS (.v 9)⟩,
  ⟨some 11, none, none, .objs [], .mv (.c (.sc (.int .i64 0)))⟩])) <|
  .block 0 (.loop (some [3, 9, 10, 11]) il29l0)) <|
  .seq (.ops ([
  ⟨some 2, none, none, .objs [], .mv (.c (.sc (.int .i64 0)))⟩])) <|
  .ret

theorem il29_eq : cFn Tryd.prog pol 29 = some ⟨57, il29c, [(2, none)]⟩ := by kernel_rfl

noncomputable def il32l0b : C :=
  .seq (.seq (.ops ([
  ⟨some 69, none, none, .objs [], .mv (.v 11)⟩,
  ⟨some 70, none, none, .objs [], .mv (.v 2)⟩,
  ⟨some 71, none, none, .objs [], .bin .lss false (.v 69) (.v 70)⟩])) <|
  .cond (.v 71) (.nop) (.exit 0)) <|
  .seq (.block 1 (.seq (.opsD [] ([
    ⟨some 74, none, none, .objs [], .fa 3 (.v 8)⟩,
    ⟨some 75, none, none, .objs [(.v 74)], .ld false 1 (.v 74)⟩,
    ⟨some 76, none, none, .objs [], .mv (.v 75)⟩,
    ⟨some 77, some (76, true), none, .objs [], .mv (.v 1)⟩,
    ⟨some 78, some (76, true), none, .objs [], .mv (.v 11)⟩,
    ⟨some 79, some (76, true), none, .objs [], .iaS 4 (.v 77) (.v 78)⟩,
    ⟨some 80, some (76, true), none, .objs [], .fa 0 (.v 79)⟩,
    ⟨some 81, some (76, true), none, .objs [(.v 80)], .ld false 1 (.v 80)⟩,
    ⟨some 82, some (76, true), none, .objs [], .bin .eql false (.v 81) (.c (.sc (.int .i64 2)))⟩,
    ⟨some 83, none, none, .objs [], .pk (.v 76) (.v 82) (.c (.sc (.bool false)))⟩,
    ⟨some 84, none, none, .objs [], .mv (.v 83)⟩] ++ mkL [1, 2, 7, 8, 10, 11, 84] ([
    ⟨some 85, some (84, true), none, .objs [], .mv (.v 1)⟩,
    ⟨some 86, some (84, true), none, .objs [], .mv (.v 11)⟩,
    ⟨some 87, some (84, true), none, .objs [], .iaS 4 (.v 85) (.v 86)⟩,
    ⟨some 88, some (84, true), none, .objs [], .fa 1 (.v 87)⟩,
    ⟨some 89, some (84, true), none, .objs [(.v 88)], .ld false 1 (.v 88)⟩,
    ⟨some 90, some (84, true), none, .objs [], .fa 1 (.v 7)⟩,
    ⟨some 91, some (84, true), none, .objs [(.v 90)], .ld false 1 (.v 90)⟩,
    ⟨some 92, some (84, true), none, .objs [], .bin .eql false (.v 89) (.v 91)⟩,
    ⟨some 93, none, none, .objs [], .pk (.v 84) (.v 92) (.c (.sc (.bool false)))⟩,
    ⟨some 94, none, none, .objs [], .mv (.v 93)⟩,
    ⟨some 95, some (94, true), none, .objs [], .mv (.v 1)⟩,
    ⟨some 96, some (94, true), none, .objs [], .mv (.v 2)⟩,
    ⟨some 97, some (94, true), none, .objs [], .fa 1 (.v 7)⟩,
    ⟨some 98, some (94, true), none, .objs [(.v 97)], .ld false 1 (.v 97)⟩] ++ mkL [1, 2, 7, 8, 10, 11, 94, 95, 96, 98] ([
    ⟨some 99, some (94, true), none, .objs [], .mv (.v 1)⟩,
    ⟨some 100, some (94, true), none, .objs [], .mv (.v 11)⟩,
    ⟨some 101, some (94, true), none, .objs [], .iaS 4 (.v 99) (.v 100)⟩,
    ⟨some 102, some (94, true), none, .objs [], .fa 2 (.v 101)⟩,
    ⟨some 103, some (94, true), none, .objs [(.v 102)], .ld false 1 (.v 102)⟩,
    ⟨some 104, some (94, true), none, .cal (.c (.fn (.func 34) [] [])) [(.v 95), (.v 96), (.c (.sc (.int .i64 1))), (.v 98), (.v 103)], .call (.c (.fn (.func 34) [] [])) [(.v 95), (.v 96), (.c (.sc (.int .i64 1))), (.v 98), (.v 103)]⟩,
    ⟨some 105, some (94, true), none, .objs [], .mv (.v 10)⟩,
    ⟨some 106, some (94, true), none, .objs [], .bin .gtr false (.v 104) (.v 105)⟩,
    ⟨some 107, none, none, .objs [], .pk (.v 94) (.v 106) (.c (.sc (.bool false)))⟩])))) <|
    .cond (.v 107) (.seq (.ops ([
      ⟨some 6, none, none, .objs [], .mv (.c (.sc (.int .i64 7)))⟩])) <|
      .ret) (.nop))) <|
  .ops ([
  ⟨some 72, none, none, .objs [], .mv (.v 11)⟩,
  ⟨some 73, none, none, .objs [], .bin .add false (.v 72) (.c (.sc (.int .i64 1)))⟩,
  ⟨some 11, none, none, .objs [], .mv (.v 73)⟩])
noncomputable def il32l0 : C := il32l0b
theorem il32l0_go {P : Program} {pol : Pol} {K : Oracle} {I : Inl} {n : Nat} {f : FuncId} {R : Xit → FEnv → Heap → Prop} {e : FEnv} {h : Heap} : wc P pol K I n f il32l0 R e h = wc P pol K I n f il32l0b R e h := (fun x => x) rfl

noncomputable def il32c : C :=
  .seq (.ops ([
  ⟨some 6, none, none, .objs [], .mv (.c (.sc (.int .i64 0)))⟩])) <|
  .seq (.ops ([
  ⟨some 12, none, none, .objs [], .mv (.v 1)⟩,
  ⟨some 13, none, none, .objs [], .mv (.v 2)⟩,
  ⟨some 14, none, none, .objs [], .iaS 4 (.v 12) (.v 13)⟩,
  ⟨some 15, none, none, .objs [], .ld true 4 (.v 14)⟩,
  ⟨some 7, none, none, .objs [], .nw 4 (.agg [(.sc (.int .i64 0)), (.sc (.int .i64 0)), (.sc (.int .i64 0)), (.sc (.int .i64 0))])⟩,
  ⟨none, none, none, .objs [], .st 4 (.v 7) (.v 15)⟩])) <|
  .seq (.ops ([
  ⟨some 17, none, none, .objs [], .mv (.v 0)⟩,
  ⟨some 18, none, none, .objs [], .fa 1 (.v 7)⟩,
  ⟨some 19, none, none, .objs [], .ld false 1 (.v 18)⟩,
  ⟨some 20, none, none, .objs [], .call (.c (.fn (.func 33) [] [])) [(.v 17), (.v 19)]⟩,
  ⟨some 16, none, none, .objs [], .mv (.v 20)⟩,
  ⟨some 21, none, none, .objs [], .ex (.v 16) 0⟩,
  ⟨some 22, none, none, .objs [], .ex (.v 16) 1⟩] ++ mkL [1, 2, 7, 21, 22] ([
  ⟨some 8, none, none, .objs [], .nw 4 (.agg [(.sc (.int .i64 0)), (.sc (.int .i64 0)), (.sc (.int .i64 0)), (.sc (.bool false))])⟩,
  ⟨none, none, none, .objs [], .st 4 (.v 8) (.v 21)⟩,
  ⟨some 9, none, none, .objs [], .mv (.v 22)⟩]))) <|
  .seq (.seq (.ops ([
  ⟨some 23, none, none, .objs [], .mv (.v 9)⟩,
  ⟨some 24, none, none, .objs [], .nt (.v 23)⟩])) <|
  .cond (.v 24) (.seq (.ops ([
    ⟨some 6, none, none, .objs [], .mv (.c (.sc (.int .i64 1)))⟩])) <|
    .ret) (.nop)) <|
  .seq (.ops ([
  ⟨some 25, none, none, .objs [], .mv (.v 1)⟩,
  ⟨some 26, none, none, .objs [], .mv (.v 2)⟩,
  ⟨some 27, none, none, .objs [], .fa 1 (.v 7)⟩,
  ⟨some 28, none, none, .objs [], .ld false 1 (.v 27)⟩,
  ⟨some 29, none, none, .objs [], .fa 2 (.v 7)⟩,
  ⟨some 30, none, none, .objs [], .ld false 1 (.v 29)⟩,
  ⟨some 31, none, none, .objs [], .call (.c (.fn (.func 34) [] [])) [(.v 25), (.v 26), (.c (.sc (.int .i64 1))), (.v 28), (.v 30)]⟩,
  ⟨some 10, none, none, .objs [], .mv (.v 31)⟩])) <| mkC [1, 2, 7, 8, 10] <|
  .seq (.seq (.ops ([
  ⟨some 32, none, none, .objs [], .fa 0 (.v 7)⟩,
  ⟨some 33, none, none, .objs [], .ld false 1 (.v 32)⟩,
  ⟨some 34, none, none, .objs [], .bin .eql false (.v 33) (.c (.sc (.int .i64 1)))⟩])) <|
  .cond (.v 34) (.seq (.seq (.ops ([
    ⟨some 35, none, none, .objs [], .mv (.v 10)⟩,
    ⟨some 36, none, none, .objs [], .bin .geq false (.v 35) (.c (.sc (.int .i64 0)))⟩])) <|
    .cond (.v 36) (.seq (.ops ([
      ⟨some 6, none, none, .objs [], .mv (.c (.sc (.int .i64 2)))⟩])) <|
      .ret) (.nop)) <|
    .seq (.ops ([
    ⟨some 6, none, none, .objs [], .mv (.c (.sc (.int .i64 0)))⟩])) <|
    .ret) (.nop)) <|
  .seq (.seq (.ops ([
  ⟨some 37, none, none, .objs [], .mv (.v 10)⟩,
  ⟨some 38, none, none, .objs [], .bin .lss false (.v 37) (.c (.sc (.int .i64 0)))⟩])) <|
  .cond (.v 38) (.seq (.ops ([
    ⟨some 6, none, none, .objs [], .mv (.c (.sc (.int .i64 3)))⟩])) <|
    .ret) (.nop)) <|
  .seq (.seq (.ops ([
  ⟨some 39, none, none, .objs [], .mv (.v 1)⟩,
  ⟨some 40, none, none, .objs [], .mv (.v 2)⟩,
  ⟨some 41, none, none, .objs [], .fa 1 (.v 7)⟩,
  ⟨some 42, none, none, .objs [], .ld false 1 (.v 41)⟩] ++ mkL [1, 2, 7, 8, 10, 39, 40, 42] ([
  ⟨some 43, none, none, .objs [], .fa 2 (.v 7)⟩,
  ⟨some 44, none, none, .objs [], .ld false 1 (.v 43)⟩,
  ⟨some 45, none, none, .objs [], .call (.c (.fn (.func 34) [] [])) [(.v 39), (.v 40), (.c (.sc (.int .i64 2))), (.v 42), (.v 44)]⟩,
  ⟨some 46, none, none, .objs [], .bin .geq false (.v 45) (.c (.sc (.int .i64 0)))⟩]))) <|
  .cond (.v 46) (.seq (.ops ([
    ⟨some 6, none, none, .objs [], .mv (.c (.sc (.int .i64 4)))⟩])) <|
    .ret) (.nop)) <|
  .seq (.seq (.opsD [] ([
  ⟨some 47, none, none, .objs [], .fa 3 (.v 7)⟩,
  ⟨some 48, none, none, .objs [(.v 47)], .ld false 1 (.v 47)⟩,
  ⟨some 49, none, none, .objs [], .mv (.v 1)⟩,
  ⟨some 50, none, none, .objs [], .mv (.v 10)⟩,
  ⟨some 51, none, none, .objs [], .iaS 4 (.v 49) (.v 50)⟩,
  ⟨some 52, none, none, .objs [], .fa 3 (.v 51)⟩,
  ⟨some 53, none, none, .objs [(.v 52)], .ld false 1 (.v 52)⟩,
  ⟨some 54, none, none, .objs [], .bin .sub false (.v 48) (.v 53)⟩,
  ⟨some 55, none, none, .objs [], .fa 1 (.v 8)⟩] ++ mkL [1, 2, 7, 8, 10, 54, 55] ([
  ⟨some 56, none, none, .objs [(.v 55)], .ld false 1 (.v 55)⟩,
  ⟨some 57, none, none, .objs [], .bin .lss false (.v 54) (.v 56)⟩]))) <|
  .cond (.v 57) (.seq (.ops ([
    ⟨some 6, none, none, .objs [], .mv (.c (.sc (.int .i64 5)))⟩])) <|
    .ret) (.nop)) <|
  .seq (.seq (.opsD [] ([
  ⟨some 58, none, none, .objs [], .fa 3 (.v 7)⟩,
  ⟨some 59, none, none, .objs [(.v 58)], .ld false 1 (.v 58)⟩,
  ⟨some 60, none, none, .objs [], .mv (.v 1)⟩,
  ⟨some 61, none, none, .objs [], .mv (.v 10)⟩,
  ⟨some 62, none, none, .objs [], .iaS 4 (.v 60) (.v 61)⟩,
  ⟨some 63, none, none, .objs [], .fa 3 (.v 62)⟩,
  ⟨some 64, none, none, .objs [(.v 63)], .ld false 1 (.v 63)⟩,
  ⟨some 65, none, none, .objs [], .bin .sub false (.v 59) (.v 64)⟩,
  ⟨some 66, none, none, .objs [], .fa 2 (.v 8)⟩,
  ⟨some 67, none, none, .objs [(.v 66)], .ld false 1 (.v 66)⟩,
  ⟨some 68, none, none, .objs [], .bin .gtr false (.v 65) (.v 67)⟩])) <| mkC [1, 2, 7, 8, 10, 68] <|
  .cond (.v 68) (.seq (.ops ([
    ⟨some 6, none, none, .objs [], .mv (.c (.sc (.int .i64 6)))⟩])) <|
    .ret) (.nop)) <|
  .seq (.seq (.ops ([
  ⟨some 11, none, none, .objs [], .mv (.c (.sc (.int .i64 0)))⟩])) <|
  .block 0 (.loop (some [1, 2, 7, 8, 10, 11]) il32l0)) <|
  .seq (.ops ([
  ⟨some 6, none, none, .objs [], .mv (.c (.sc (.int .i64 0)))⟩])) <|
  .ret

theorem il32_eq : cFn Tryd.prog pol 32 = some ⟨108, il32c, [(6, none)]⟩ := by kernel_rfl

noncomputable def il33l0b : C :=
  .seq (.seq (.ops ([
  ⟨some 7, none, none, .objs [], .mv (.v 6)⟩,
  ⟨some 8, none, none, .objs [], .mv (.v 0)⟩,
  ⟨some 9, none, none, .objs [], .lenS (.v 8)⟩,
  ⟨some 10, none, none, .objs [], .bin .lss false (.v 7) (.v 9)⟩])) <|
  .cond (.v 10) (.nop) (.exit 0)) <|
  .seq (.block 1 (.seq (.ops ([
    ⟨some 13, none, none, .objs [], .mv (.v 0)⟩,
    ⟨some 14, none, none, .objs [], .mv (.v 6)⟩,
    ⟨some 15, none, none, .objs [], .iaS 4 (.v 13) (.v 14)⟩,
    ⟨some 16, none, none, .objs [], .fa 0 (.v 15)⟩,
    ⟨some 17, none, none, .objs [], .ld false 1 (.v 16)⟩,
    ⟨some 18, none, none, .objs [], .mv (.v 1)⟩,
    ⟨some 19, none, none, .objs [], .bin .eql false (.v 17) (.v 18)⟩])) <|
    .cond (.v 19) (.seq (.ops ([
      ⟨some 20, none, none, .objs [], .mv (.v 0)⟩,
      ⟨some 21, none, none, .objs [], .mv (.v 6)⟩,
      ⟨some 22, none, none, .objs [], .iaS 4 (.v 20) (.v 21)⟩] ++ mkL [4, 22] ([
      ⟨some 23, none, none, .objs [], .ld true 4 (.v 22)⟩,
      ⟨none, none, none, .objs [], .st 4 (.v 4) (.v 23)⟩,
      ⟨some 5, none, none, .objs [], .mv (.c (.sc (.bool true)))⟩]))) <|
      .ret) (.nop))) <|
  .ops ([
  ⟨some 11, none, none, .objs [], .mv (.v 6)⟩,
  ⟨some 12, none, none, .objs [], .bin .add false (.v 11) (.c (.sc (.int .i64 1)))⟩,
  ⟨some 6, none, none, .objs [], .mv (.v 12)⟩])
noncomputable def il33l0 : C := il33l0b
theorem il33l0_go {P : Program} {pol : Pol} {K : Oracle} {I : Inl} {n : Nat} {f : FuncId} {R : Xit → FEnv → Heap → Prop} {e : FEnv} {h : Heap} : wc P pol K I n f il33l0 R e h = wc P pol K I n f il33l0b R e h := (fun x => x) rfl

noncomputable def il33c : C :=
  .seq (.ops ([
  ⟨some 4, none, none, .objs [], .nw 4 (.agg [(.sc (.int .i64 0)), (.sc (.int .i64 0)), (.sc (.int .i64 0)), (.sc (.bool false))])⟩,
  ⟨some 5, none, none, .objs [], .mv (.c (.sc (.bool false)))⟩])) <|
  .seq (.seq (.ops ([
  ⟨some 6, none, none, .objs [], .mv (.c (.sc (.int .i64 0)))⟩])) <|
  .block 0 (.loop (some [0, 1, 4, 6]) il33l0)) <|
  .seq (.ops ([
  ⟨some 24, none, none, .objs [], .bd [(.sc (.int .i64 0)), (.sc (.int .i64 0)), (.sc (.int .i64 0)), (.sc (.bool false))] []⟩,
  ⟨none, none, none, .objs [], .st 4 (.v 4) (.v 24)⟩,
  ⟨some 5, none, none, .objs [], .mv (.c (.sc (.bool false)))⟩])) <|
  .ret

theorem il33_eq : cFn Tryd.prog pol 33 = some ⟨25, il33c, [(4, some (true, 4)), (5, none)]⟩ := by kernel_rfl

noncomputable def il34l0b : C :=
  .seq (.seq (.ops ([
  ⟨some 12, none, none, .objs [], .mv (.v 11)⟩,
  ⟨some 13, none, none, .objs [], .mv (.v 1)⟩,
  ⟨some 14, none, none, .objs [], .bin .lss false (.v 12) (.v 13)⟩])) <|
  .cond (.v 14) (.nop) (.exit 0)) <|
  .seq (.block 1 (.seq (.ops ([
    ⟨some 17, none, none, .objs [], .mv (.v 0)⟩,
    ⟨some 18, none, none, .objs [], .mv (.v 11)⟩,
    ⟨some 19, none, none, .objs [], .iaS 4 (.v 17) (.v 18)⟩,
    ⟨some 20, none, none, .objs [], .fa 0 (.v 19)⟩,
    ⟨some 21, none, none, .objs [], .ld false 1 (.v 20)⟩,
    ⟨some 22, none, none, .objs [], .mv (.v 2)⟩,
    ⟨some 23, none, none, .objs [], .bin .eql false (.v 21) (.v 22)⟩,
    ⟨some 24, none, none, .objs [], .mv (.v 23)⟩,
    ⟨some 25, some (24, true), none, .objs [], .mv (.v 0)⟩,
    ⟨some 26, some (24, true), none, .objs [], .mv (.v 11)⟩,
    ⟨some 27, some (24, true), none, .objs [], .iaS 4 (.v 25) (.v 26)⟩] ++ mkL [0, 1, 2, 3, 4, 11, 24, 27] ([
    ⟨some 28, some (24, true), none, .objs [], .fa 1 (.v 27)⟩,
    ⟨some 29, some (24, true), none, .objs [], .ld false 1 (.v 28)⟩,
    ⟨some 30, some (24, true), none, .objs [], .mv (.v 3)⟩,
    ⟨some 31, some (24, true), none, .objs [], .bin .eql false (.v 29) (.v 30)⟩,
    ⟨some 32, none, none, .objs [], .pk (.v 24) (.v 31) (.c (.sc (.bool false)))⟩,
    ⟨some 33, none, none, .objs [], .mv (.v 32)⟩,
    ⟨some 34, some (33, true), none, .objs [], .mv (.v 0)⟩,
    ⟨some 35, some (33, true), none, .objs [], .mv (.v 11)⟩,
    ⟨some 36, some (33, true), none, .objs [], .iaS 4 (.v 34) (.v 35)⟩,
    ⟨some 37, some (33, true), none, .objs [], .fa 2 (.v 36)⟩,
    ⟨some 38, some (33, true), none, .objs [], .ld false 1 (.v 37)⟩,
    ⟨some 39, some (33, true), none, .objs [], .mv (.v 4)⟩,
    ⟨some 40, some (33, true), none, .objs [], .bin .eql false (.v 38) (.v 39)⟩,
    ⟨some 41, none, none, .objs [], .pk (.v 33) (.v 40) (.c (.sc (.bool false)))⟩]))) <| mkC [0, 1, 2, 3, 4, 11, 41] <|
    .cond (.v 41) (.seq (.ops ([
      ⟨some 42, none, none, .objs [], .mv (.v 11)⟩,
      ⟨some 10, none, none, .objs [], .mv (.v 42)⟩])) <|
      .ret) (.nop))) <|
  .ops ([
  ⟨some 15, none, none, .objs [], .mv (.v 11)⟩,
  ⟨some 16, none, none, .objs [], .bin .add false (.v 15) (.c (.sc (.int .i64 1)))⟩,
  ⟨some 11, none, none, .objs [], .mv (.v 16)⟩])
noncomputable def il34l0 : C := il34l0b
theorem il34l0_go {P : Program} {pol : Pol} {K : Oracle} {I : Inl} {n : Nat} {f : FuncId} {R : Xit → FEnv → Heap → Prop} {e : FEnv} {h : Heap} : wc P pol K I n f il34l0 R e h = wc P pol K I n f il34l0b R e h := (fun x => x) rfl

noncomputable def il34c : C :=
  .seq (.ops ([
  ⟨some 10, none, none, .objs [], .mv (.c (.sc (.int .i64 0)))⟩])) <|
  .seq (.seq (.ops ([
  ⟨some 11, none, none, .objs [], .mv (.c (.sc (.int .i64 0)))⟩])) <|
  .block 0 (.loop (some [0, 1, 2, 3, 4, 11]) il34l0)) <|
  .seq (.ops ([
  ⟨some 10, none, none, .objs [], .mv (.c (.sc (.int .i64 (-1))))⟩])) <|
  .ret

theorem il34_eq : cFn Tryd.prog pol 34 = some ⟨43, il34c, [(10, none)]⟩ := by kernel_rfl

noncomputable def il35c : C :=
  .seq (.ops ([
  ⟨some 1, none, none, .objs [], .bx false (.v 0)⟩,
  ⟨some 2, none, none, .objs [], .nw 2 (.agg [(.sc (.int .i64 0)), (.sc (.int .i64 0))])⟩])) <|
  .seq (.ops ([
  ⟨some 3, none, none, .objs [], .fa 1 (.v 1)⟩,
  ⟨some 4, none, none, .objs [], .ld false 1 (.v 3)⟩,
  ⟨some 5, none, none, .objs [], .fa 2 (.v 1)⟩,
  ⟨some 6, none, none, .objs [], .ld false 1 (.v 5)⟩,
  ⟨some 7, none, none, .objs [], .bd [(.sc (.int .i64 0)), (.sc (.int .i64 0))] [(0, 1, (.v 4)), (1, 1, (.v 6))]⟩,
  ⟨none, none, none, .objs [], .st 2 (.v 2) (.v 7)⟩])) <|
  .ret

theorem il35_eq : cFn Tryd.prog pol 35 = some ⟨8, il35c, [(2, some (true, 2))]⟩ := by kernel_rfl

noncomputable def il37c : C :=
  .seq (.ops ([
  ⟨some 2, none, none, .objs [], .mv (.c (.sc (.string ⟨#[]⟩)))⟩])) <|
  .seq (.seq (.ops ([
  ⟨some 3, none, none, .objs [], .mv (.v 0)⟩,
  ⟨some 4, none, none, .objs [], .bin .lss false (.v 3) (.c (.sc (.int .i64 0)))⟩])) <|
  .cond (.v 4) (.seq (.opsD [(3, 12), (6, 12)] ([
    ⟨some 5, none, none, .objs [], .mv (.v 0)⟩,
    ⟨some 6, none, none, .objs [], .bin .quo false (.v 5) (.c (.sc (.int .i64 10)))⟩,
    ⟨some 7, none, none, .objs [], .ng (.v 6)⟩,
    ⟨some 8, none, none, .cal (.c (.fn (.func 37) [] [])) [(.v 7)], .call (.c (.fn (.func 37) [] [])) [(.v 7)]⟩,
    ⟨some 9, none, none, .objs [], .mv (.v 0)⟩,
    ⟨some 10, none, none, .objs [], .bin .quo false (.v 9) (.c (.sc (.int .i64 10)))⟩,
    ⟨some 11, none, none, .cal (.c (.fn (.func 42) [] [])) [(.v 8), (.v 10)], .call (.c (.fn (.func 42) [] [])) [(.v 8), (.v 10)]⟩,
    ⟨some 12, none, none, .objs [], .bin .add false (.c (.sc (.string ⟨#[45]⟩))) (.v 11)⟩,
    ⟨some 13, none, none, .objs [], .mv (.v 0)⟩,
    ⟨some 14, none, none, .objs [], .bin .rem false (.v 13) (.c (.sc (.int .i64 10)))⟩,
    ⟨some 15, none, none, .objs [], .bin .sub false (.c (.sc (.int .i64 48))) (.v 14)⟩] ++ mkL [12, 15] ([
    ⟨some 16, none, none, .objs [], .cv .u8 (.v 15)⟩,
    ⟨some 17, none, none, .objs [], .bs false 1 (.sc (.int .u8 0)) 1 [(0, (.v 16))]⟩,
    ⟨some 18, none, none, .objs [], .raw (opOf Tryd.prog 37 2 13)⟩,
    ⟨some 19, none, none, .objs [], .bin .add false (.v 12) (.v 18)⟩,
    ⟨some 2, none, none, .objs [], .mv (.v 19)⟩]))) <|
    .ret) (.nop)) <|
  .seq (.seq (.ops ([
  ⟨some 20, none, none, .objs [], .mv (.v 0)⟩,
  ⟨some 21, none, none, .objs [], .bin .lss false (.v 20) (.c (.sc (.int .i64 10)))⟩])) <|
  .cond (.v 21) (.seq (.ops ([
    ⟨some 22, none, none, .objs [], .mv (.v 0)⟩,
    ⟨some 23, none, none, .objs [], .bin .add false (.c (.sc (.int .i64 48))) (.v 22)⟩,
    ⟨some 24, none, none, .objs [], .cv .u8 (.v 23)⟩,
    ⟨some 25, none, none, .objs [], .bs false 1 (.sc (.int .u8 0)) 1 [(0, (.v 24))]⟩,
    ⟨some 26, none, none, .objs [], .raw (opOf Tryd.prog 37 4 4)⟩,
    ⟨some 2, none, none, .objs [], .mv (.v 26)⟩])) <|
    .ret) (.nop)) <|
  .seq (.opsD [(2, 7)] ([
  ⟨some 27, none, none, .objs [], .mv (.v 0)⟩] ++ mkL [0, 27] ([
  ⟨some 28, none, none, .objs [], .bin .quo false (.v 27) (.c (.sc (.int .i64 10)))⟩,
  ⟨some 29, none, none, .cal (.c (.fn (.func 37) [] [])) [(.v 28)], .call (.c (.fn (.func 37) [] [])) [(.v 28)]⟩,
  ⟨some 30, none, none, .objs [], .mv (.v 0)⟩,
  ⟨some 31, none, none, .objs [], .bin .rem false (.v 30) (.c (.sc (.int .i64 10)))⟩,
  ⟨some 32, none, none, .objs [], .bin .add false (.c (.sc (.int .i64 48))) (.v 31)⟩,
  ⟨some 33, none, none, .objs [], .cv .u8 (.v 32)⟩,
  ⟨some 34, none, none, .objs [], .bs false 1 (.sc (.int .u8 0)) 1 [(0, (.v 33))]⟩,
  ⟨some 35, none, none, .objs [], .raw (opOf Tryd.prog 37 5 8)⟩,
  ⟨some 36, none, none, .objs [], .bin .add false (.v 29) (.v 35)⟩,
  ⟨some 2, none, none, .objs [], .mv (.v 36)⟩]))) <|
  .ret

theorem il37_eq : cFn Tryd.prog pol 37 = some ⟨37, il37c, [(2, none)]⟩ := by kernel_rfl
-- RAW 37 2 13 convert 105 9
-- RAW 37 4 4 convert 105 9
-- RAW 37 5 8 convert 105 9

noncomputable def il40c : C :=
  .seq (.ops ([
  ⟨some 5, none, none, .objs [], .bx false (.v 2)⟩])) <|
  .seq (.opsD [(4, 6), (4, 8), (5, 8), (6, 8), (7, 8)] ([
  ⟨some 7, none, none, .objs [], .mv (.v 0)⟩,
  ⟨some 8, none, none, .objs [], .nc (.v 7)⟩,
  ⟨some 9, none, none, .objs [], .fa 0 (.v 8)⟩,
  ⟨some 10, none, none, .objs [], .fa 1 (.v 9)⟩,
  ⟨some 11, none, none, .objs [(.v 10)], .ld false 1 (.v 10)⟩,
  ⟨some 12, none, none, .objs [(.v 5)], .ld true 4 (.v 5)⟩,
  ⟨some 13, none, none, .cal (.c (.fn (.func 35) [] [])) [(.v 12)], .call (.c (.fn (.func 35) [] [])) [(.v 12)]⟩,
  ⟨some 14, none, none, .objs [(.v 11)], .raw (opOf Tryd.prog 40 1 7)⟩,
  ⟨some 6, none, none, .objs [], .nw 4 (.agg [(.sc (.bool false)), (.sc (.bool false)), (.sc (.int .i64 0)), (.sc (.int .i64 0))])⟩,
  ⟨none, none, none, .objs [(.v 6)], .st 4 (.v 6) (.v 14)⟩])) <|
  .seq (.seq (.ops ([
  ⟨some 15, none, none, .objs [], .fa 0 (.v 5)⟩,
  ⟨some 16, none, none, .objs [], .ld false 1 (.v 15)⟩,
  ⟨some 17, none, none, .objs [], .bin .eql false (.v 16) (.c (.sc (.int .i64 1)))⟩])) <| mkC [0, 1, 5, 6, 17] <|
  .cond (.v 17) (.seq (.opsD [(4, 6), (6, 9)] ([
    ⟨some 18, none, none, .objs [], .mv (.v 0)⟩,
    ⟨some 19, none, none, .objs [], .nc (.v 18)⟩,
    ⟨some 20, none, none, .objs [], .fa 0 (.v 19)⟩,
    ⟨some 21, none, none, .objs [], .fa 1 (.v 20)⟩,
    ⟨some 22, none, none, .objs [(.v 21)], .ld false 1 (.v 21)⟩,
    ⟨some 23, none, none, .objs [(.v 5)], .ld true 4 (.v 5)⟩,
    ⟨some 24, none, none, .cal (.c (.fn (.func 35) [] [])) [(.v 23)], .call (.c (.fn (.func 35) [] [])) [(.v 23)]⟩,
    ⟨some 25, none, none, .objs [], .mv (.v 1)⟩,
    ⟨some 26, none, none, .objs [], .fa 3 (.v 5)⟩,
    ⟨some 27, none, none, .objs [(.v 26)], .ld false 1 (.v 26)⟩,
    ⟨some 28, none, none, .objs [], .bd [(.sc (.bool false)), (.sc (.bool false)), (.sc (.int .i64 0)), (.sc (.int .i64 0))] [(0, 1, (.c (.sc (.bool true)))), (2, 1, (.v 25)), (3, 1, (.v 27))]⟩,
    ⟨none, none, none, .objs [(.v 22)], .raw (opOf Tryd.prog 40 3 11)⟩])) <|
    .ret) (.nop)) <|
  .seq (.ops ([
  ⟨some 29, none, none, .objs [], .fa 1 (.v 6)⟩,
  ⟨none, none, none, .objs [], .st 1 (.v 29) (.c (.sc (.bool true)))⟩])) <| mkC [0, 5, 6] <|
  .seq (.opsD [(4, 6), (6, 7)] ([
  ⟨some 30, none, none, .objs [], .mv (.v 0)⟩,
  ⟨some 31, none, none, .objs [], .nc (.v 30)⟩,
  ⟨some 32, none, none, .objs [], .fa 0 (.v 31)⟩,
  ⟨some 33, none, none, .objs [], .fa 1 (.v 32)⟩,
  ⟨some 34, none, none, .objs [(.v 33)], .ld false 1 (.v 33)⟩,
  ⟨some 35, none, none, .objs [(.v 5)], .ld true 4 (.v 5)⟩,
  ⟨some 36, none, none, .cal (.c (.fn (.func 35) [] [])) [(.v 35)], .call (.c (.fn (.func 35) [] [])) [(.v 35)]⟩,
  ⟨some 37, none, none, .objs [(.v 6)], .ld true 4 (.v 6)⟩,
  ⟨none, none, none, .objs [(.v 34)], .raw (opOf Tryd.prog 40 5 8)⟩])) <|
  .opsD [] ([
  ⟨some 38, none, none, .objs [], .mv (.v 0)⟩,
  ⟨some 39, none, none, .objs [], .nc (.v 38)⟩,
  ⟨some 40, none, none, .objs [], .fa 0 (.v 39)⟩,
  ⟨some 41, none, none, .objs [], .fa 2 (.v 40)⟩,
  ⟨some 42, none, none, .objs [(.v 41)], .ld false 1 (.v 41)⟩] ++ mkL [0, 5, 6, 42] ([
  ⟨some 43, none, none, .objs [], .fa 1 (.v 5)⟩,
  ⟨some 44, none, none, .objs [(.v 43)], .ld false 1 (.v 43)⟩,
  ⟨some 45, none, none, .objs [], .mv (.v 0)⟩,
  ⟨some 46, none, none, .objs [], .nc (.v 45)⟩,
  ⟨some 47, none, none, .objs [], .fa 0 (.v 46)⟩,
  ⟨some 48, none, none, .objs [], .fa 2 (.v 47)⟩,
  ⟨some 49, none, none, .objs [(.v 48)], .ld false 1 (.v 48)⟩,
  ⟨some 50, none, none, .objs [], .fa 1 (.v 5)⟩,
  ⟨some 51, none, none, .objs [(.v 50)], .ld false 1 (.v 50)⟩,
  ⟨some 52, none, none, .objs [(.v 49)], .raw (opOf Tryd.prog 40 6 14)⟩,
  ⟨some 53, none, none, .objs [], .fa 2 (.v 6)⟩,
  ⟨some 54, none, none, .objs [(.v 53)], .ld false 1 (.v 53)⟩,
  ⟨some 55, none, none, .objs [], .mnx true (.v 52) (.v 54)⟩,
  ⟨none, none, none, .objs [(.v 42)], .raw (opOf Tryd.prog 40 6 18)⟩]))

theorem il40_eq : cFn Tryd.prog pol 40 = some ⟨56, il40c, []⟩ := by kernel_rfl
theorem raw40_1_7 {e : FEnv} {h : Heap} : iStep Tryd.prog pol 40 e h (.raw (opOf Tryd.prog 40 1 7)) = vOf h (lkV Tryd.prog 75 false h (Src.get e (.v 11)) (Src.get e (.v 13))) := raw_lookup (x := (.tmp 11)) (ix := (.tmp 13)) (by kernel_rfl)
theorem raw40_3_11 {e : FEnv} {h : Heap} : iStep Tryd.prog pol 40 e h (.raw (opOf Tryd.prog 40 3 11)) = hOf (upV Tryd.prog 75 h (Src.get e (.v 22)) (Src.get e (.v 24)) (Src.get e (.v 28))) := raw_update (m := (.tmp 22)) (k := (.tmp 24)) (x := (.tmp 28)) (by kernel_rfl)
theorem raw40_5_8 {e : FEnv} {h : Heap} : iStep Tryd.prog pol 40 e h (.raw (opOf Tryd.prog 40 5 8)) = hOf (upV Tryd.prog 75 h (Src.get e (.v 34)) (Src.get e (.v 36)) (Src.get e (.v 37))) := raw_update (m := (.tmp 34)) (k := (.tmp 36)) (x := (.tmp 37)) (by kernel_rfl)
theorem raw40_6_14 {e : FEnv} {h : Heap} : iStep Tryd.prog pol 40 e h (.raw (opOf Tryd.prog 40 6 14)) = vOf h (lkV Tryd.prog 76 false h (Src.get e (.v 49)) (Src.get e (.v 51))) := raw_lookup (x := (.tmp 49)) (ix := (.tmp 51)) (by kernel_rfl)
theorem raw40_6_18 {e : FEnv} {h : Heap} : iStep Tryd.prog pol 40 e h (.raw (opOf Tryd.prog 40 6 18)) = hOf (upV Tryd.prog 76 h (Src.get e (.v 42)) (Src.get e (.v 44)) (Src.get e (.v 55))) := raw_update (m := (.tmp 42)) (k := (.tmp 44)) (x := (.tmp 55)) (by kernel_rfl)

noncomputable def il42c : C :=
  .seq (.ops ([
  ⟨some 4, none, none, .objs [], .mv (.c (.sc (.string ⟨#[]⟩)))⟩])) <|
  .seq (.seq (.ops ([
  ⟨some 5, none, none, .objs [], .mv (.v 1)⟩,
  ⟨some 6, none, none, .objs [], .bin .eql false (.v 5) (.c (.sc (.int .i64 0)))⟩])) <|
  .cond (.v 6) (.seq (.ops ([
    ⟨some 4, none, none, .objs [], .mv (.c (.sc (.string ⟨#[]⟩)))⟩])) <|
    .ret) (.nop)) <|
  .seq (.ops ([
  ⟨some 7, none, none, .objs [], .mv (.v 0)⟩,
  ⟨some 4, none, none, .objs [], .mv (.v 7)⟩])) <|
  .ret

theorem il42_eq : cFn Tryd.prog pol 42 = some ⟨8, il42c, [(4, none)]⟩ := by kernel_rfl

noncomputable def il43c : C :=
  .seq (.ops ([
  ⟨some 3, none, none, .objs [], .bx false (.v 1)⟩,
  ⟨some 4, none, none, .objs [], .mv (.c (.sc (.bool false)))⟩])) <|
  .seq (.opsD [(4, 11), (6, 11), (7, 11)] ([
  ⟨some 8, none, none, .objs [], .mv (.v 0)⟩,
  ⟨some 9, none, none, .objs [], .nc (.v 8)⟩,
  ⟨some 10, none, none, .objs [], .fa 0 (.v 9)⟩,
  ⟨some 11, none, none, .objs [], .fa 0 (.v 10)⟩,
  ⟨some 12, none, none, .objs [(.v 11)], .ld false 1 (.v 11)⟩,
  ⟨some 13, none, none, .objs [], .fa 1 (.v 3)⟩,
  ⟨some 14, none, none, .objs [(.v 13)], .ld false 1 (.v 13)⟩,
  ⟨some 15, none, none, .objs [(.v 12)], .raw (opOf Tryd.prog 43 1 7)⟩,
  ⟨some 7, none, none, .objs [], .mv (.v 15)⟩,
  ⟨some 16, none, none, .objs [], .ex (.v 7) 0⟩,
  ⟨some 17, none, none, .objs [], .ex (.v 7) 1⟩,
  ⟨some 5, none, none, .objs [], .nw 4 (.agg [(.sc (.int .i64 0)), (.sc (.int .i64 0)), (.sc (.int .i64 0)), (.sc (.bool false))])⟩] ++ mkL [5, 16, 17] ([
  ⟨none, none, none, .objs [(.v 5)], .st 4 (.v 5) (.v 16)⟩,
  ⟨some 6, none, none, .objs [], .mv (.v 17)⟩]))) <|
  .seq (.ops ([
  ⟨some 18, none, none, .objs [], .mv (.v 6)⟩,
  ⟨some 19, none, none, .objs [], .nt (.v 18)⟩,
  ⟨some 4, none, none, .objs [], .mv (.v 19)⟩])) <|
  .ret

theorem il43_eq : cFn Tryd.prog pol 43 = some ⟨20, il43c, [(4, none)]⟩ := by kernel_rfl
theorem raw43_1_7 {e : FEnv} {h : Heap} : iStep Tryd.prog pol 43 e h (.raw (opOf Tryd.prog 43 1 7)) = vOf h (lkV Tryd.prog 74 true h (Src.get e (.v 12)) (Src.get e (.v 14))) := raw_lookup (x := (.tmp 12)) (ix := (.tmp 14)) (by kernel_rfl)

noncomputable def il44c : C :=
  .seq (.ops ([
  ⟨some 2, none, none, .objs [], .bx false (.v 0)⟩,
  ⟨some 3, none, none, .objs [], .mv (.c (.sc (.bool false)))⟩])) <|
  .seq (.opsD [(4, 10), (8, 10)] ([
  ⟨some 4, none, none, .objs [], .fa 0 (.v 2)⟩,
  ⟨some 5, none, none, .objs [(.v 4)], .ld false 1 (.v 4)⟩,
  ⟨some 6, none, none, .objs [], .bin .eql false (.v 5) (.c (.sc (.int .i64 1)))⟩,
  ⟨some 7, none, none, .objs [], .mv (.v 6)⟩,
  ⟨some 8, some (7, true), none, .objs [(.v 1)], .ld false 1 (.v 1)⟩,
  ⟨some 9, some (7, true), none, .objs [], .nc (.v 8)⟩,
  ⟨some 10, some (7, true), none, .objs [], .fa 0 (.v 9)⟩,
  ⟨some 11, some (7, true), none, .objs [], .fa 1 (.v 10)⟩,
  ⟨some 12, some (7, true), none, .objs [(.v 11)], .ld false 1 (.v 11)⟩,
  ⟨some 13, some (7, true), none, .objs [(.v 2)], .ld true 4 (.v 2)⟩,
  ⟨some 14, some (7, true), none, .cal (.c (.fn (.func 35) [] [])) [(.v 13)], .call (.c (.fn (.func 35) [] [])) [(.v 13)]⟩,
  ⟨some 15, some (7, true), none, .objs [(.v 12)], .raw (opOf Tryd.prog 44 1 11)⟩] ++ mkL [7, 15] ([
  ⟨some 16, some (7, true), none, .objs [], .fd false 1 0 (.v 15)⟩,
  ⟨some 17, none, none, .objs [], .pk (.v 7) (.v 16) (.c (.sc (.bool false)))⟩,
  ⟨some 3, none, none, .objs [], .mv (.v 17)⟩]))) <|
  .ret

theorem il44_eq : cFn Tryd.prog pol 44 = some ⟨18, il44c, [(3, none)]⟩ := by kernel_rfl
theorem raw44_1_11 {e : FEnv} {h : Heap} : iStep Tryd.prog pol 44 e h (.raw (opOf Tryd.prog 44 1 11)) = vOf h (lkV Tryd.prog 75 false h (Src.get e (.v 12)) (Src.get e (.v 14))) := raw_lookup (x := (.tmp 12)) (ix := (.tmp 14)) (by kernel_rfl)

noncomputable def il45c : C :=
  .seq (.ops ([
  ⟨some 2, none, none, .objs [], .bx false (.v 0)⟩,
  ⟨some 3, none, none, .objs [], .mv (.c (.sc (.bool false)))⟩])) <|
  .seq (.opsD [(4, 10), (8, 10)] ([
  ⟨some 4, none, none, .objs [], .fa 0 (.v 2)⟩,
  ⟨some 5, none, none, .objs [(.v 4)], .ld false 1 (.v 4)⟩,
  ⟨some 6, none, none, .objs [], .bin .eql false (.v 5) (.c (.sc (.int .i64 2)))⟩,
  ⟨some 7, none, none, .objs [], .mv (.v 6)⟩,
  ⟨some 8, some (7, true), none, .objs [(.v 1)], .ld false 1 (.v 1)⟩,
  ⟨some 9, some (7, true), none, .objs [], .nc (.v 8)⟩,
  ⟨some 10, some (7, true), none, .objs [], .fa 0 (.v 9)⟩,
  ⟨some 11, some (7, true), none, .objs [], .fa 1 (.v 10)⟩,
  ⟨some 12, some (7, true), none, .objs [(.v 11)], .ld false 1 (.v 11)⟩,
  ⟨some 13, some (7, true), none, .objs [(.v 2)], .ld true 4 (.v 2)⟩,
  ⟨some 14, some (7, true), none, .cal (.c (.fn (.func 35) [] [])) [(.v 13)], .call (.c (.fn (.func 35) [] [])) [(.v 13)]⟩,
  ⟨some 15, some (7, true), none, .objs [(.v 12)], .raw (opOf Tryd.prog 45 1 11)⟩] ++ mkL [7, 15] ([
  ⟨some 16, some (7, true), none, .objs [], .fd false 1 0 (.v 15)⟩,
  ⟨some 17, some (7, true), none, .objs [], .nt (.v 16)⟩,
  ⟨some 18, none, none, .objs [], .pk (.v 7) (.v 17) (.c (.sc (.bool false)))⟩,
  ⟨some 3, none, none, .objs [], .mv (.v 18)⟩]))) <|
  .ret

theorem il45_eq : cFn Tryd.prog pol 45 = some ⟨19, il45c, [(3, none)]⟩ := by kernel_rfl
theorem raw45_1_11 {e : FEnv} {h : Heap} : iStep Tryd.prog pol 45 e h (.raw (opOf Tryd.prog 45 1 11)) = vOf h (lkV Tryd.prog 75 false h (Src.get e (.v 12)) (Src.get e (.v 14))) := raw_lookup (x := (.tmp 12)) (ix := (.tmp 14)) (by kernel_rfl)

noncomputable def il46c : C :=
  .seq (.ops ([
  ⟨some 2, none, none, .objs [], .bx false (.v 0)⟩,
  ⟨some 3, none, none, .objs [], .mv (.c (.sc (.bool false)))⟩])) <|
  .seq (.opsD [(4, 10), (8, 10)] ([
  ⟨some 4, none, none, .objs [], .fa 0 (.v 2)⟩,
  ⟨some 5, none, none, .objs [(.v 4)], .ld false 1 (.v 4)⟩,
  ⟨some 6, none, none, .objs [], .bin .eql false (.v 5) (.c (.sc (.int .i64 2)))⟩,
  ⟨some 7, none, none, .objs [], .mv (.v 6)⟩,
  ⟨some 8, some (7, true), none, .objs [(.v 1)], .ld false 1 (.v 1)⟩,
  ⟨some 9, some (7, true), none, .objs [], .nc (.v 8)⟩,
  ⟨some 10, some (7, true), none, .objs [], .fa 0 (.v 9)⟩,
  ⟨some 11, some (7, true), none, .objs [], .fa 1 (.v 10)⟩,
  ⟨some 12, some (7, true), none, .objs [(.v 11)], .ld false 1 (.v 11)⟩,
  ⟨some 13, some (7, true), none, .objs [(.v 2)], .ld true 4 (.v 2)⟩,
  ⟨some 14, some (7, true), none, .cal (.c (.fn (.func 35) [] [])) [(.v 13)], .call (.c (.fn (.func 35) [] [])) [(.v 13)]⟩,
  ⟨some 15, some (7, true), none, .objs [(.v 12)], .raw (opOf Tryd.prog 46 1 11)⟩] ++ mkL [7, 15] ([
  ⟨some 16, some (7, true), none, .objs [], .fd false 1 1 (.v 15)⟩,
  ⟨some 17, none, none, .objs [], .pk (.v 7) (.v 16) (.c (.sc (.bool false)))⟩,
  ⟨some 3, none, none, .objs [], .mv (.v 17)⟩]))) <|
  .ret

theorem il46_eq : cFn Tryd.prog pol 46 = some ⟨18, il46c, [(3, none)]⟩ := by kernel_rfl
theorem raw46_1_11 {e : FEnv} {h : Heap} : iStep Tryd.prog pol 46 e h (.raw (opOf Tryd.prog 46 1 11)) = vOf h (lkV Tryd.prog 75 false h (Src.get e (.v 12)) (Src.get e (.v 14))) := raw_lookup (x := (.tmp 12)) (ix := (.tmp 14)) (by kernel_rfl)

noncomputable def il47c : C :=
  .seq (.ops ([
  ⟨some 2, none, none, .objs [], .bx false (.v 0)⟩,
  ⟨some 3, none, none, .objs [], .mv (.c (.sc (.bool false)))⟩])) <|
  .seq (.opsD [(5, 12), (6, 12), (10, 12), (12, 16), (12, 20), (12, 22), (12, 23)] ([
  ⟨some 4, none, none, .objs [], .fa 0 (.v 2)⟩,
  ⟨some 5, none, none, .objs [(.v 4)], .ld false 1 (.v 4)⟩,
  ⟨some 6, none, none, .objs [], .bin .eql false (.v 5) (.c (.sc (.int .i64 2)))⟩,
  ⟨some 7, none, none, .objs [], .mv (.v 6)⟩,
  ⟨some 8, some (7, true), none, .objs [], .fa 3 (.v 2)⟩,
  ⟨some 9, some (7, true), none, .objs [(.v 8)], .ld false 1 (.v 8)⟩,
  ⟨some 10, some (7, true), none, .objs [(.v 1)], .ld false 1 (.v 1)⟩,
  ⟨some 11, some (7, true), none, .objs [], .nc (.v 10)⟩,
  ⟨some 12, some (7, true), none, .objs [], .fa 0 (.v 11)⟩,
  ⟨some 13, some (7, true), none, .objs [], .fa 1 (.v 12)⟩,
  ⟨some 14, some (7, true), none, .objs [(.v 13)], .ld false 1 (.v 13)⟩,
  ⟨some 15, some (7, true), none, .objs [(.v 2)], .ld true 4 (.v 2)⟩] ++ mkL [1, 2, 7, 9, 14, 15] ([
  ⟨some 16, some (7, true), none, .cal (.c (.fn (.func 35) [] [])) [(.v 15)], .call (.c (.fn (.func 35) [] [])) [(.v 15)]⟩,
  ⟨some 17, some (7, true), none, .objs [(.v 14)], .raw (opOf Tryd.prog 47 1 13)⟩,
  ⟨some 18, some (7, true), none, .objs [], .fd false 1 3 (.v 17)⟩,
  ⟨some 19, some (7, true), none, .objs [], .bin .sub false (.v 9) (.v 18)⟩,
  ⟨some 20, some (7, true), none, .objs [(.v 1)], .ld false 1 (.v 1)⟩,
  ⟨some 21, some (7, true), none, .objs [], .nc (.v 20)⟩,
  ⟨some 22, some (7, true), none, .objs [], .fa 0 (.v 21)⟩,
  ⟨some 23, some (7, true), none, .objs [], .fa 0 (.v 22)⟩,
  ⟨some 24, some (7, true), none, .objs [(.v 23)], .ld false 1 (.v 23)⟩,
  ⟨some 25, some (7, true), none, .objs [], .fa 1 (.v 2)⟩,
  ⟨some 26, some (7, true), none, .objs [(.v 25)], .ld false 1 (.v 25)⟩,
  ⟨some 27, some (7, true), none, .objs [(.v 24)], .raw (opOf Tryd.prog 47 1 23)⟩,
  ⟨some 28, some (7, true), none, .objs [], .fd false 1 1 (.v 27)⟩,
  ⟨some 29, some (7, true), none, .objs [], .bin .lss false (.v 19) (.v 28)⟩] ++ mkL [7, 29] ([
  ⟨some 30, none, none, .objs [], .pk (.v 7) (.v 29) (.c (.sc (.bool false)))⟩,
  ⟨some 3, none, none, .objs [], .mv (.v 30)⟩])))) <|
  .ret

theorem il47_eq : cFn Tryd.prog pol 47 = some ⟨31, il47c, [(3, none)]⟩ := by kernel_rfl
theorem raw47_1_13 {e : FEnv} {h : Heap} : iStep Tryd.prog pol 47 e h (.raw (opOf Tryd.prog 47 1 13)) = vOf h (lkV Tryd.prog 75 false h (Src.get e (.v 14)) (Src.get e (.v 16))) := raw_lookup (x := (.tmp 14)) (ix := (.tmp 16)) (by kernel_rfl)
theorem raw47_1_23 {e : FEnv} {h : Heap} : iStep Tryd.prog pol 47 e h (.raw (opOf Tryd.prog 47 1 23)) = vOf h (lkV Tryd.prog 74 false h (Src.get e (.v 24)) (Src.get e (.v 26))) := raw_lookup (x := (.tmp 24)) (ix := (.tmp 26)) (by kernel_rfl)

noncomputable def il48c : C :=
  .seq (.ops ([
  ⟨some 2, none, none, .objs [], .bx false (.v 0)⟩,
  ⟨some 3, none, none, .objs [], .mv (.c (.sc (.bool false)))⟩])) <|
  .seq (.opsD [(5, 12), (6, 12), (10, 12), (12, 16), (12, 20), (12, 22), (12, 23)] ([
  ⟨some 4, none, none, .objs [], .fa 0 (.v 2)⟩,
  ⟨some 5, none, none, .objs [(.v 4)], .ld false 1 (.v 4)⟩,
  ⟨some 6, none, none, .objs [], .bin .eql false (.v 5) (.c (.sc (.int .i64 2)))⟩,
  ⟨some 7, none, none, .objs [], .mv (.v 6)⟩,
  ⟨some 8, some (7, true), none, .objs [], .fa 3 (.v 2)⟩,
  ⟨some 9, some (7, true), none, .objs [(.v 8)], .ld false 1 (.v 8)⟩,
  ⟨some 10, some (7, true), none, .objs [(.v 1)], .ld false 1 (.v 1)⟩,
  ⟨some 11, some (7, true), none, .objs [], .nc (.v 10)⟩,
  ⟨some 12, some (7, true), none, .objs [], .fa 0 (.v 11)⟩,
  ⟨some 13, some (7, true), none, .objs [], .fa 1 (.v 12)⟩,
  ⟨some 14, some (7, true), none, .objs [(.v 13)], .ld false 1 (.v 13)⟩,
  ⟨some 15, some (7, true), none, .objs [(.v 2)], .ld true 4 (.v 2)⟩] ++ mkL [1, 2, 7, 9, 14, 15] ([
  ⟨some 16, some (7, true), none, .cal (.c (.fn (.func 35) [] [])) [(.v 15)], .call (.c (.fn (.func 35) [] [])) [(.v 15)]⟩,
  ⟨some 17, some (7, true), none, .objs [(.v 14)], .raw (opOf Tryd.prog 48 1 13)⟩,
  ⟨some 18, some (7, true), none, .objs [], .fd false 1 3 (.v 17)⟩,
  ⟨some 19, some (7, true), none, .objs [], .bin .sub false (.v 9) (.v 18)⟩,
  ⟨some 20, some (7, true), none, .objs [(.v 1)], .ld false 1 (.v 1)⟩,
  ⟨some 21, some (7, true), none, .objs [], .nc (.v 20)⟩,
  ⟨some 22, some (7, true), none, .objs [], .fa 0 (.v 21)⟩,
  ⟨some 23, some (7, true), none, .objs [], .fa 0 (.v 22)⟩,
  ⟨some 24, some (7, true), none, .objs [(.v 23)], .ld false 1 (.v 23)⟩,
  ⟨some 25, some (7, true), none, .objs [], .fa 1 (.v 2)⟩,
  ⟨some 26, some (7, true), none, .objs [(.v 25)], .ld false 1 (.v 25)⟩,
  ⟨some 27, some (7, true), none, .objs [(.v 24)], .raw (opOf Tryd.prog 48 1 23)⟩,
  ⟨some 28, some (7, true), none, .objs [], .fd false 1 2 (.v 27)⟩,
  ⟨some 29, some (7, true), none, .objs [], .bin .gtr false (.v 19) (.v 28)⟩] ++ mkL [7, 29] ([
  ⟨some 30, none, none, .objs [], .pk (.v 7) (.v 29) (.c (.sc (.bool false)))⟩,
  ⟨some 3, none, none, .objs [], .mv (.v 30)⟩])))) <|
  .ret

theorem il48_eq : cFn Tryd.prog pol 48 = some ⟨31, il48c, [(3, none)]⟩ := by kernel_rfl
theorem raw48_1_13 {e : FEnv} {h : Heap} : iStep Tryd.prog pol 48 e h (.raw (opOf Tryd.prog 48 1 13)) = vOf h (lkV Tryd.prog 75 false h (Src.get e (.v 14)) (Src.get e (.v 16))) := raw_lookup (x := (.tmp 14)) (ix := (.tmp 16)) (by kernel_rfl)
theorem raw48_1_23 {e : FEnv} {h : Heap} : iStep Tryd.prog pol 48 e h (.raw (opOf Tryd.prog 48 1 23)) = vOf h (lkV Tryd.prog 74 false h (Src.get e (.v 24)) (Src.get e (.v 26))) := raw_lookup (x := (.tmp 24)) (ix := (.tmp 26)) (by kernel_rfl)

noncomputable def il49c : C :=
  .seq (.ops ([
  ⟨some 3, none, none, .objs [], .bx false (.v 1)⟩,
  ⟨some 4, none, none, .objs [], .mv (.c (.sc (.bool false)))⟩])) <|
  .seq (.seq (.opsD [] ([
  ⟨some 7, none, none, .objs [], .fa 0 (.v 3)⟩,
  ⟨some 8, none, none, .objs [(.v 7)], .ld false 1 (.v 7)⟩,
  ⟨some 9, none, none, .objs [], .bin .neq false (.v 8) (.c (.sc (.int .i64 2)))⟩,
  ⟨some 10, none, none, .objs [], .mv (.v 9)⟩,
  ⟨some 11, some (10, false), none, .objs [], .mv (.v 0)⟩,
  ⟨some 12, some (10, false), none, .objs [], .nc (.v 11)⟩,
  ⟨some 13, some (10, false), none, .objs [], .fa 0 (.v 12)⟩,
  ⟨some 14, some (10, false), none, .objs [], .fa 0 (.v 13)⟩,
  ⟨some 15, some (10, false), none, .objs [(.v 14)], .ld false 1 (.v 14)⟩,
  ⟨some 16, some (10, false), none, .objs [], .fa 1 (.v 3)⟩,
  ⟨some 17, some (10, false), none, .objs [(.v 16)], .ld false 1 (.v 16)⟩,
  ⟨some 18, some (10, false), none, .objs [(.v 15)], .raw (opOf Tryd.prog 49 1 11)⟩] ++ mkL [0, 3, 10, 18] ([
  ⟨some 19, some (10, false), none, .objs [], .fd false 1 3 (.v 18)⟩,
  ⟨some 20, some (10, false), none, .objs [], .nt (.v 19)⟩,
  ⟨some 21, none, none, .objs [], .pk (.v 10) (.c (.sc (.bool true))) (.v 20)⟩]))) <|
  .cond (.v 21) (.seq (.ops ([
    ⟨some 4, none, none, .objs [], .mv (.c (.sc (.bool false)))⟩])) <|
    .ret) (.nop)) <|
  .seq (.opsD [] ([
  ⟨some 23, none, none, .objs [], .mv (.v 0)⟩,
  ⟨some 24, none, none, .objs [], .nc (.v 23)⟩,
  ⟨some 25, none, none, .objs [], .fa 0 (.v 24)⟩,
  ⟨some 26, none, none, .objs [], .fa 2 (.v 25)⟩,
  ⟨some 27, none, none, .objs [(.v 26)], .ld false 1 (.v 26)⟩,
  ⟨some 28, none, none, .objs [], .fa 1 (.v 3)⟩,
  ⟨some 29, none, none, .objs [(.v 28)], .ld false 1 (.v 28)⟩,
  ⟨some 30, none, none, .objs [(.v 27)], .raw (opOf Tryd.prog 49 3 7)⟩,
  ⟨some 22, none, none, .objs [], .mv (.v 30)⟩,
  ⟨some 31, none, none, .objs [], .ex (.v 22) 0⟩] ++ mkL [0, 3, 22, 31] ([
  ⟨some 32, none, none, .objs [], .ex (.v 22) 1⟩,
  ⟨some 5, none, none, .objs [], .mv (.v 31)⟩,
  ⟨some 6, none, none, .objs [], .mv (.v 32)⟩]))) <|
  .seq (.opsD [(7, 9)] ([
  ⟨some 33, none, none, .objs [], .mv (.v 6)⟩,
  ⟨some 34, none, none, .objs [], .mv (.v 33)⟩,
  ⟨some 35, some (34, true), none, .objs [], .mv (.v 5)⟩,
  ⟨some 36, some (34, true), none, .objs [], .mv (.v 0)⟩,
  ⟨some 37, some (34, true), none, .objs [], .nc (.v 36)⟩,
  ⟨some 38, some (34, true), none, .objs [], .fa 0 (.v 37)⟩,
  ⟨some 39, some (34, true), none, .objs [], .fa 1 (.v 38)⟩,
  ⟨some 40, some (34, true), none, .objs [(.v 39)], .ld false 1 (.v 39)⟩,
  ⟨some 41, some (34, true), none, .objs [(.v 3)], .ld true 4 (.v 3)⟩,
  ⟨some 42, some (34, true), none, .cal (.c (.fn (.func 35) [] [])) [(.v 41)], .call (.c (.fn (.func 35) [] [])) [(.v 41)]⟩,
  ⟨some 43, some (34, true), none, .objs [(.v 40)], .raw (opOf Tryd.prog 49 4 10)⟩] ++ mkL [34, 35, 43] ([
  ⟨some 44, some (34, true), none, .objs [], .fd false 1 2 (.v 43)⟩,
  ⟨some 45, some (34, true), none, .objs [], .bin .gtr false (.v 35) (.v 44)⟩,
  ⟨some 46, none, none, .objs [], .pk (.v 34) (.v 45) (.c (.sc (.bool false)))⟩,
  ⟨some 4, none, none, .objs [], .mv (.v 46)⟩]))) <|
  .ret

theorem il49_eq : cFn Tryd.prog pol 49 = some ⟨47, il49c, [(4, none)]⟩ := by kernel_rfl
theorem raw49_1_11 {e : FEnv} {h : Heap} : iStep Tryd.prog pol 49 e h (.raw (opOf Tryd.prog 49 1 11)) = vOf h (lkV Tryd.prog 74 false h (Src.get e (.v 15)) (Src.get e (.v 17))) := raw_lookup (x := (.tmp 15)) (ix := (.tmp 17)) (by kernel_rfl)
theorem raw49_3_7 {e : FEnv} {h : Heap} : iStep Tryd.prog pol 49 e h (.raw (opOf Tryd.prog 49 3 7)) = vOf h (lkV Tryd.prog 76 true h (Src.get e (.v 27)) (Src.get e (.v 29))) := raw_lookup (x := (.tmp 27)) (ix := (.tmp 29)) (by kernel_rfl)
theorem raw49_4_10 {e : FEnv} {h : Heap} : iStep Tryd.prog pol 49 e h (.raw (opOf Tryd.prog 49 4 10)) = vOf h (lkV Tryd.prog 75 false h (Src.get e (.v 40)) (Src.get e (.v 42))) := raw_lookup (x := (.tmp 40)) (ix := (.tmp 42)) (by kernel_rfl)

attribute [go_sem] eqT34
attribute [go_sem] eqT22
attribute [go_sem] eqT23
attribute [go_sem] raw16_7_0
attribute [go_sem] raw16_12_3
attribute [go_sem] raw16_14_5
attribute [go_sem] raw40_1_7
attribute [go_sem] raw40_3_11
attribute [go_sem] raw40_5_8
attribute [go_sem] raw40_6_14
attribute [go_sem] raw40_6_18
attribute [go_sem] raw43_1_7
attribute [go_sem] raw44_1_11
attribute [go_sem] raw45_1_11
attribute [go_sem] raw46_1_11
attribute [go_sem] raw47_1_13
attribute [go_sem] raw47_1_23
attribute [go_sem] raw48_1_13
attribute [go_sem] raw48_1_23
attribute [go_sem] raw49_1_11
attribute [go_sem] raw49_3_7
attribute [go_sem] raw49_4_10
end Go.Proofs.YthcaepnclhgkmaaDoor
