/- Functions of the program, worked out ahead (printed by a program; each is checked against the program by the kernel). -/
import Derived.Test.YthcaepnclhgkmaaDoorILBase
set_option linter.unusedSimpArgs false
namespace Go.Proofs.YthcaepnclhgkmaaDoor
open Go Go.Abs
set_option maxRecDepth 100000
set_option linter.unusedVariables false

theorem eqT34 {a0 b0 : Int} {a1 b1 : Int} {a2 b2 : Int} {a3 b3 : Int} : aEq Tryd.prog 34 (.t (.agg [.sc (.int .i64 a0), .sc (.int .i64 a1), .sc (.int .i64 a2), .sc (.int .i64 a3)])) (.t (.agg [.sc (.int .i64 b0), .sc (.int .i64 b1), .sc (.int .i64 b2), .sc (.int .i64 b3)])) = some (decide (a0 = b0 ∧ a1 = b1 ∧ a2 = b2 ∧ a3 = b3)) :=
  (show aEq Tryd.prog 34 (.t (.agg [.sc (.int .i64 a0), .sc (.int .i64 a1), .sc (.int .i64 a2), .sc (.int .i64 a3)])) (.t (.agg [.sc (.int .i64 b0), .sc (.int .i64 b1), .sc (.int .i64 b2), .sc (.int .i64 b3)])) = some ((a0 == b0) && ((a1 == b1) && ((a2 == b2) && ((a3 == b3) && true)))) by kernel_rfl).trans (by congr 1; rw [Bool.eq_iff_iff]; simp [and_assoc])

theorem eqT22 : isSliceT Tryd.prog 22 = true := by kernel_rfl

theorem eqT23 : isSliceT Tryd.prog 23 = true := by kernel_rfl

noncomputable def il8l0b : C :=
  .seq (.ops ([
  ⟨some 66, none, none, .objs [], .bin .lss false (.v 65) (.c (.sc (.int .i64 3)))⟩])) <|
  .seq (.cond (.v 66) (.nop) (.exit 0)) <|
  .seq (.block 1 (.seq (.ops ([
    ⟨some 67, none, none, .objs [], .ixA false 1 3 1 (.v 64) (.v 65)⟩,
    ⟨some 20, none, none, .objs [], .mv (.v 67)⟩])) <|
    .seq (.ops ([
    ⟨some 68, none, none, .objs [], .mv (.v 20)⟩,
    ⟨some 69, none, none, .objs [], .call (.c (.fn (.func 13) [] [])) [(.v 68)]⟩,
    ⟨some 21, none, none, .objs [], .mv (.v 69)⟩])) <|
    .seq (.ops ([
    ⟨some 70, none, none, .objs [], .mv (.v 21)⟩,
    ⟨some 71, none, none, .objs [], .mv (.v 20)⟩,
    ⟨some 72, none, none, .objs [], .call (.c (.fn (.func 26) [] [])) [(.v 71)]⟩,
    ⟨some 73, none, none, .objs [], .bin .eql false (.v 72) (.c (.sc (.int .i64 0)))⟩,
    ⟨some 74, none, none, .objs [], .bin .neq true (.v 70) (.v 73)⟩,
    ⟨some 75, none, none, .objs [], .mv (.v 74)⟩,
    ⟨some 76, some (75, false), none, .objs [], .mv (.v 21)⟩,
    ⟨some 77, some (75, false), none, .objs [], .nt (.v 76)⟩] ++ mkL [1, 16, 18, 20, 64, 65, 75, 77] ([
    ⟨some 78, some (75, false), none, .objs [], .mv (.v 77)⟩,
    ⟨some 79, some (78, true), none, .objs [], .mv (.v 20)⟩,
    ⟨some 80, some (78, true), none, .objs [], .call (.c (.fn (.func 26) [] [])) [(.v 79)]⟩,
    ⟨some 81, some (78, true), none, .objs [], .bin .neq false (.v 80) (.c (.sc (.int .i64 541)))⟩,
    ⟨some 82, some (75, false), none, .objs [], .pk (.v 78) (.v 81) (.c (.sc (.bool false)))⟩,
    ⟨some 83, none, none, .objs [], .pk (.v 75) (.c (.sc (.bool true))) (.v 82)⟩]))) <|
    .cond (.v 83) (.seq (.ops ([
      ⟨some 14, none, none, .objs [], .mv (.c (.sc (.bool false)))⟩])) <|
      .ret) (.nop))) <|
  .ops ([
  ⟨some 84, none, none, .objs [], .bin .add false (.v 65) (.c (.sc (.int .i64 1)))⟩,
  ⟨some 65, none, none, .objs [], .mv (.v 84)⟩])
noncomputable def il8l0 : C := il8l0b
theorem il8l0_go {P : Program} {pol : Pol} {K : Oracle} {I : Inl} {n : Nat} {f : FuncId} {R : Xit → FEnv → Heap → Prop} {e : FEnv} {h : Heap} : wc P pol K I n f il8l0 R e h = wc P pol K I n f il8l0b R e h := (fun x => x) rfl

noncomputable def il8l1b : C :=
  .seq (.ops ([
  ⟨some 94, none, none, .objs [], .bin .lss false (.v 93) (.c (.sc (.int .i64 3)))⟩])) <|
  .seq (.cond (.v 94) (.nop) (.exit 2)) <|
  .seq (.block 3 (.seq (.ops ([
    ⟨some 95, none, none, .objs [], .ixA false 1 3 1 (.v 92) (.v 93)⟩,
    ⟨some 23, none, none, .objs [], .mv (.v 95)⟩])) <|
    .seq (.ops ([
    ⟨some 96, none, none, .objs [], .mv (.v 23)⟩,
    ⟨some 97, none, none, .objs [], .call (.c (.fn (.func 14) [] [])) [(.v 96)]⟩,
    ⟨some 24, none, none, .objs [], .mv (.v 97)⟩])) <|
    .seq (.ops ([
    ⟨some 98, none, none, .objs [], .mv (.v 24)⟩,
    ⟨some 99, none, none, .objs [], .mv (.v 23)⟩,
    ⟨some 100, none, none, .objs [], .call (.c (.fn (.func 29) [] [])) [(.v 99)]⟩,
    ⟨some 101, none, none, .objs [], .bin .eql false (.v 100) (.c (.sc (.int .i64 0)))⟩,
    ⟨some 102, none, none, .objs [], .bin .neq true (.v 98) (.v 101)⟩,
    ⟨some 103, none, none, .objs [], .mv (.v 102)⟩,
    ⟨some 104, some (103, false), none, .objs [], .mv (.v 24)⟩,
    ⟨some 105, some (103, false), none, .objs [], .nt (.v 104)⟩] ++ mkL [23, 92, 93, 103, 105] ([
    ⟨some 106, some (103, false), none, .objs [], .mv (.v 105)⟩,
    ⟨some 107, some (106, true), none, .objs [], .mv (.v 23)⟩,
    ⟨some 108, some (106, true), none, .objs [], .call (.c (.fn (.func 29) [] [])) [(.v 107)]⟩,
    ⟨some 109, some (106, true), none, .objs [], .bin .neq false (.v 108) (.c (.sc (.int .i64 540)))⟩,
    ⟨some 110, some (103, false), none, .objs [], .pk (.v 106) (.v 109) (.c (.sc (.bool false)))⟩,
    ⟨some 111, none, none, .objs [], .pk (.v 103) (.c (.sc (.bool true))) (.v 110)⟩]))) <|
    .cond (.v 111) (.seq (.ops ([
      ⟨some 14, none, none, .objs [], .mv (.c (.sc (.bool false)))⟩])) <|
      .ret) (.nop))) <|
  .ops ([
  ⟨some 112, none, none, .objs [], .bin .add false (.v 93) (.c (.sc (.int .i64 1)))⟩,
  ⟨some 93, none, none, .objs [], .mv (.v 112)⟩])
noncomputable def il8l1 : C := il8l1b
theorem il8l1_go {P : Program} {pol : Pol} {K : Oracle} {I : Inl} {n : Nat} {f : FuncId} {R : Xit → FEnv → Heap → Prop} {e : FEnv} {h : Heap} : wc P pol K I n f il8l1 R e h = wc P pol K I n f il8l1b R e h := (fun x => x) rfl

noncomputable def il8c : C :=
  .seq (.ops ([
  ⟨some 12, none, none, .objs [], .bx false (.v 5)⟩,
  ⟨some 13, none, none, .objs [], .bx false (.v 6)⟩,
  ⟨some 14, none, none, .objs [], .mv (.c (.sc (.bool false)))⟩])) <|
  .seq (.seq (.ops ([
  ⟨some 25, none, none, .objs [], .call (.c (.fn (.func 9) [] [])) []⟩,
  ⟨some 26, none, none, .objs [], .nt (.v 25)⟩])) <|
  .cond (.v 26) (.seq (.ops ([
    ⟨some 14, none, none, .objs [], .mv (.c (.sc (.bool false)))⟩])) <|
    .ret) (.nop)) <|
  .seq (.ops ([
  ⟨some 27, none, none, .objs [], .mv (.v 2)⟩,
  ⟨some 28, none, none, .objs [], .call (.c (.fn (.func 10) [] [])) [(.v 27)]⟩,
  ⟨some 29, none, none, .objs [], .mv (.v 3)⟩,
  ⟨some 30, none, none, .objs [], .call (.c (.fn (.func 11) [] [])) [(.v 29)]⟩,
  ⟨some 15, none, none, .objs [], .mv (.v 28)⟩,
  ⟨some 16, none, none, .objs [], .mv (.v 30)⟩])) <|
  .seq (.ops ([
  ⟨some 31, none, none, .objs [], .mv (.v 15)⟩,
  ⟨some 32, none, none, .objs [], .call (.c (.fn (.func 27) [] [])) [(.v 31)]⟩] ++ mkL [0, 1, 4, 12, 13, 15, 16, 32] ([
  ⟨some 33, none, none, .objs [], .mv (.v 16)⟩,
  ⟨some 34, none, none, .objs [], .call (.c (.fn (.func 28) [] [])) [(.v 33)]⟩,
  ⟨some 17, none, none, .objs [], .mv (.v 32)⟩,
  ⟨some 18, none, none, .objs [], .mv (.v 34)⟩]))) <|
  .seq (.seq (.ops ([
  ⟨some 35, none, none, .objs [], .mv (.v 17)⟩,
  ⟨some 36, none, none, .objs [], .lenS (.v 35)⟩,
  ⟨some 37, none, none, .objs [], .bin .gtr false (.v 36) (.c (.sc (.int .i64 0)))⟩])) <|
  .cond (.v 37) (.opsD [] ([
    ⟨some 38, none, none, .objs [], .mv (.v 17)⟩,
    ⟨some 39, none, none, .objs [], .mv (.v 4)⟩,
    ⟨some 40, none, none, .objs [], .cv .i64 (.v 39)⟩,
    ⟨some 41, none, none, .objs [], .mv (.v 17)⟩,
    ⟨some 42, none, none, .objs [(.v 41)], .lenS (.v 41)⟩,
    ⟨some 43, none, none, .objs [], .bin .rem false (.v 40) (.v 42)⟩,
    ⟨some 44, none, none, .objs [(.v 12)], .ld true 4 (.v 12)⟩] ++ mkL [0, 1, 4, 13, 15, 16, 17, 18, 38, 43, 44] ([
    ⟨some 45, none, none, .objs [], .iaS 4 (.v 38) (.v 43)⟩,
    ⟨none, none, none, .objs [(.v 45)], .st 4 (.v 45) (.v 44)⟩]))) (.nop)) <|
  .seq (.seq (.ops ([
  ⟨some 46, none, none, .objs [], .mv (.v 18)⟩,
  ⟨some 47, none, none, .objs [], .lenS (.v 46)⟩,
  ⟨some 48, none, none, .objs [], .bin .gtr false (.v 47) (.c (.sc (.int .i64 0)))⟩])) <|
  .cond (.v 48) (.opsD [] ([
    ⟨some 49, none, none, .objs [], .mv (.v 18)⟩,
    ⟨some 50, none, none, .objs [], .mv (.v 4)⟩,
    ⟨some 51, none, none, .objs [], .cv .i64 (.v 50)⟩,
    ⟨some 52, none, none, .objs [], .mv (.v 18)⟩] ++ mkL [0, 1, 13, 15, 16, 17, 18, 49, 51, 52] ([
    ⟨some 53, none, none, .objs [(.v 52)], .lenS (.v 52)⟩,
    ⟨some 54, none, none, .objs [], .bin .rem false (.v 51) (.v 53)⟩,
    ⟨some 55, none, none, .objs [(.v 13)], .ld true 4 (.v 13)⟩,
    ⟨some 56, none, none, .objs [], .iaS 4 (.v 49) (.v 54)⟩,
    ⟨none, none, none, .objs [(.v 56)], .st 4 (.v 56) (.v 55)⟩]))) (.nop)) <|
  .seq (.seq (.ops ([
  ⟨some 57, none, none, .objs [], .mv (.v 0)⟩,
  ⟨some 58, none, none, .objs [], .mv (.v 0)⟩,
  ⟨some 59, none, none, .objs [], .lenS (.v 58)⟩,
  ⟨some 60, none, none, .objs [], .mnx false (.v 59) (.c (.sc (.int .i64 14)))⟩] ++ mkL [1, 15, 16, 17, 18, 57, 60] ([
  ⟨some 61, none, none, .objs [], .sl 4 (.v 57) none (some (.v 60)) none⟩,
  ⟨some 62, none, none, .objs [], .mv (.v 15)⟩,
  ⟨some 63, none, none, .objs [], .mv (.v 17)⟩,
  ⟨some 64, none, some [(.v 61), (.v 62), (.v 63)], .objs [], .bd [(.sc (.slice none 0 0)), (.sc (.slice none 0 0)), (.sc (.slice none 0 0))] [(0, 1, (.v 61)), (1, 1, (.v 62)), (2, 1, (.v 63))]⟩,
  ⟨some 65, none, none, .objs [], .mv (.c (.sc (.int .i64 0)))⟩]))) <|
  .block 0 (.loop (some [1, 16, 18, 64, 65]) il8l0)) <|
  .seq (.seq (.ops ([
  ⟨some 85, none, none, .objs [], .mv (.v 1)⟩,
  ⟨some 86, none, none, .objs [], .mv (.v 1)⟩,
  ⟨some 87, none, none, .objs [], .lenS (.v 86)⟩,
  ⟨some 88, none, none, .objs [], .mnx false (.v 87) (.c (.sc (.int .i64 300)))⟩,
  ⟨some 89, none, none, .objs [], .sl 4 (.v 85) none (some (.v 88)) none⟩,
  ⟨some 90, none, none, .objs [], .mv (.v 16)⟩,
  ⟨some 91, none, none, .objs [], .mv (.v 18)⟩,
  ⟨some 92, none, some [(.v 89), (.v 90), (.v 91)], .objs [], .bd [(.sc (.slice none 0 0)), (.sc (.slice none 0 0)), (.sc (.slice none 0 0))] [(0, 1, (.v 89)), (1, 1, (.v 90)), (2, 1, (.v 91))]⟩,
  ⟨some 93, none, none, .objs [], .mv (.c (.sc (.int .i64 0)))⟩])) <|
  .block 2 (.loop (some [92, 93]) il8l1)) <|
  .seq (.ops ([
  ⟨some 14, none, none, .objs [], .mv (.c (.sc (.bool true)))⟩])) <|
  .ret

theorem il8_eq : cFn Tryd.prog pol 8 = some ⟨113, il8c, [(14, none)]⟩ := by kernel_rfl

noncomputable def il10l0b : C :=
  .seq (.seq (.ops ([
  ⟨some 5, none, none, .objs [], .mv (.v 4)⟩,
  ⟨some 6, none, none, .objs [], .mv (.v 0)⟩,
  ⟨some 7, none, none, .objs [], .lenS (.v 6)⟩,
  ⟨some 8, none, none, .objs [], .bin .lss false (.v 5) (.v 7)⟩,
  ⟨some 9, none, none, .objs [], .mv (.v 8)⟩,
  ⟨some 10, some (9, true), none, .objs [], .mv (.v 4)⟩,
  ⟨some 11, some (9, true), none, .objs [], .bin .lss false (.v 10) (.c (.sc (.int .i64 12)))⟩,
  ⟨some 12, none, none, .objs [], .pk (.v 9) (.v 11) (.c (.sc (.bool false)))⟩])) <|
  .cond (.v 12) (.nop) (.exit 0)) <|
  .seq (.block 1 (.opsD [] ([
    ⟨some 15, none, none, .objs [], .mv (.v 3)⟩,
    ⟨some 16, none, none, .objs [], .mv (.v 4)⟩,
    ⟨some 17, none, none, .objs [], .bin .add false (.v 16) (.c (.sc (.int .i64 1)))⟩,
    ⟨some 18, none, none, .objs [], .mv (.v 0)⟩,
    ⟨some 19, none, none, .objs [], .mv (.v 4)⟩,
    ⟨some 20, none, none, .objs [], .iaS 3 (.v 18) (.v 19)⟩] ++ mkL [0, 4, 15, 17, 20] ([
    ⟨some 21, none, none, .objs [], .fa 0 (.v 20)⟩,
    ⟨some 22, none, none, .objs [(.v 21)], .ld false 1 (.v 21)⟩,
    ⟨some 23, none, none, .objs [], .cv .i64 (.v 22)⟩,
    ⟨some 24, none, none, .objs [], .mv (.v 0)⟩,
    ⟨some 25, none, none, .objs [], .mv (.v 4)⟩,
    ⟨some 26, none, none, .objs [], .iaS 3 (.v 24) (.v 25)⟩,
    ⟨some 27, none, none, .objs [], .fa 0 (.v 26)⟩,
    ⟨some 28, none, none, .objs [(.v 27)], .ld false 1 (.v 27)⟩,
    ⟨some 29, none, none, .objs [], .cv .i64 (.v 28)⟩,
    ⟨some 30, none, none, .objs [], .mv (.v 0)⟩,
    ⟨some 31, none, none, .objs [], .mv (.v 4)⟩,
    ⟨some 32, none, none, .objs [], .iaS 3 (.v 30) (.v 31)⟩,
    ⟨some 33, none, none, .objs [], .fa 1 (.v 32)⟩,
    ⟨some 34, none, none, .objs [(.v 33)], .ld false 1 (.v 33)⟩] ++ mkL [0, 4, 15, 17, 23, 29, 34] ([
    ⟨some 35, none, none, .objs [], .cv .i64 (.v 34)⟩,
    ⟨some 36, none, none, .objs [], .bin .add false (.v 29) (.v 35)⟩,
    ⟨some 37, none, none, .objs [], .mv (.v 0)⟩,
    ⟨some 38, none, none, .objs [], .mv (.v 4)⟩,
    ⟨some 39, none, none, .objs [], .iaS 3 (.v 37) (.v 38)⟩,
    ⟨some 40, none, none, .objs [], .fa 2 (.v 39)⟩,
    ⟨some 41, none, none, .objs [(.v 40)], .ld false 1 (.v 40)⟩,
    ⟨some 42, none, none, .objs [], .bd [(.sc (.int .i64 0)), (.sc (.int .i64 0)), (.sc (.int .i64 0)), (.sc (.bool false))] [(0, 1, (.v 17)), (1, 1, (.v 23)), (2, 1, (.v 36)), (3, 1, (.v 41))]⟩,
    ⟨some 43, none, none, .objs [], .bs false 4 (.agg [(.sc (.int .i64 0)), (.sc (.int .i64 0)), (.sc (.int .i64 0)), (.sc (.bool false))]) 1 [(0, (.v 42))]⟩,
    ⟨some 44, none, none, .objs [(.v 15), (.v 43)], .app 4 32 (.v 15) (.v 43)⟩,
    ⟨some 3, none, none, .objs [], .gmv 4 (.v 44)⟩]))))) <|
  .ops ([
  ⟨some 13, none, none, .objs [], .mv (.v 4)⟩,
  ⟨some 14, none, none, .objs [], .bin .add false (.v 13) (.c (.sc (.int .i64 1)))⟩,
  ⟨some 4, none, none, .objs [], .mv (.v 14)⟩])
noncomputable def il10l0 : C := il10l0b
theorem il10l0_go {P : Program} {pol : Pol} {K : Oracle} {I : Inl} {n : Nat} {f : FuncId} {R : Xit → FEnv → Heap → Prop} {e : FEnv} {h : Heap} : wc P pol K I n f il10l0 R e h = wc P pol K I n f il10l0b R e h := (fun x => x) rfl

noncomputable def il10c : C :=
  .seq (.ops ([
  ⟨some 2, none, none, .objs [], .mv (.c (.sc (.slice none 0 0)))⟩])) <|
  .seq (.ops ([
  ⟨some 3, none, none, .objs [], .gmv 4 (.c (.sc (.slice none 0 0)))⟩])) <|
  .seq (.seq (.ops ([
  ⟨some 4, none, none, .objs [], .mv (.c (.sc (.int .i64 0)))⟩])) <|
  .block 0 (.loop (some [0, 3, 4]) il10l0)) <|
  .seq (.ops ([
  ⟨some 45, none, none, .objs [], .mv (.v 3)⟩,
  ⟨some 2, none, none, .objs [], .mv (.v 45)⟩])) <|
  .ret

theorem il10_eq : cFn Tryd.prog pol 10 = some ⟨46, il10c, [(2, none)]⟩ := by kernel_rfl

noncomputable def il11l0b : C :=
  .seq (.seq (.ops ([
  ⟨some 7, none, none, .objs [], .mv (.v 5)⟩,
  ⟨some 8, none, none, .objs [], .mv (.v 0)⟩,
  ⟨some 9, none, none, .objs [], .lenS (.v 8)⟩,
  ⟨some 10, none, none, .objs [], .bin .lss false (.v 7) (.v 9)⟩,
  ⟨some 11, none, none, .objs [], .mv (.v 10)⟩,
  ⟨some 12, some (11, true), none, .objs [], .mv (.v 5)⟩,
  ⟨some 13, some (11, true), none, .objs [], .bin .lss false (.v 12) (.c (.sc (.int .i64 200)))⟩,
  ⟨some 14, none, none, .objs [], .pk (.v 11) (.v 13) (.c (.sc (.bool false)))⟩])) <|
  .cond (.v 14) (.nop) (.exit 0)) <|
  .seq (.block 1 (.seq (.ops ([
    ⟨some 17, none, none, .objs [], .mv (.v 4)⟩,
    ⟨some 18, none, none, .objs [], .mv (.v 0)⟩,
    ⟨some 19, none, none, .objs [], .mv (.v 5)⟩,
    ⟨some 20, none, none, .objs [], .iaS 5 (.v 18) (.v 19)⟩,
    ⟨some 21, none, none, .objs [], .fa 0 (.v 20)⟩,
    ⟨some 22, none, none, .objs [], .ld false 1 (.v 21)⟩] ++ mkL [0, 3, 5, 17, 22] ([
    ⟨some 23, none, none, .objs [], .cv .i64 (.v 22)⟩,
    ⟨some 24, none, none, .objs [], .bin .add false (.v 17) (.v 23)⟩,
    ⟨some 4, none, none, .objs [], .mv (.v 24)⟩]))) <|
    .seq (.opsD [(4, 16), (11, 16)] ([
    ⟨some 25, none, none, .objs [], .mv (.v 0)⟩,
    ⟨some 26, none, none, .objs [], .mv (.v 5)⟩,
    ⟨some 27, none, none, .objs [], .iaS 5 (.v 25) (.v 26)⟩,
    ⟨some 28, none, none, .objs [], .fa 2 (.v 27)⟩,
    ⟨some 29, none, none, .objs [(.v 28)], .ld false 1 (.v 28)⟩,
    ⟨some 30, none, none, .objs [], .bin .rem false (.v 29) (.c (.sc (.int .u8 4)))⟩,
    ⟨some 31, none, none, .objs [], .cv .i64 (.v 30)⟩,
    ⟨some 32, none, none, .objs [], .mv (.v 0)⟩,
    ⟨some 33, none, none, .objs [], .mv (.v 5)⟩,
    ⟨some 34, none, none, .objs [], .iaS 5 (.v 32) (.v 33)⟩,
    ⟨some 35, none, none, .objs [], .fa 3 (.v 34)⟩] ++ mkL [0, 3, 4, 5, 31, 35] ([
    ⟨some 36, none, none, .objs [(.v 35)], .ld false 1 (.v 35)⟩,
    ⟨some 37, none, none, .objs [], .bin .rem false (.v 36) (.c (.sc (.int .u8 16)))⟩,
    ⟨some 38, none, none, .objs [], .cv .i64 (.v 37)⟩,
    ⟨some 39, none, none, .objs [], .mv (.v 4)⟩,
    ⟨some 40, none, none, .objs [], .bd [(.sc (.int .i64 0)), (.sc (.int .i64 0)), (.sc (.int .i64 0)), (.sc (.int .i64 0))] [(0, 1, (.c (.sc (.int .i64 1)))), (1, 1, (.v 31)), (2, 1, (.v 38)), (3, 1, (.v 39))]⟩,
    ⟨some 6, none, none, .objs [], .nw 4 (.agg [(.sc (.int .i64 0)), (.sc (.int .i64 0)), (.sc (.int .i64 0)), (.sc (.int .i64 0))])⟩,
    ⟨none, none, none, .objs [(.v 6)], .st 4 (.v 6) (.v 40)⟩]))) <|
    .seq (.seq (.ops ([
    ⟨some 41, none, none, .objs [], .mv (.v 0)⟩,
    ⟨some 42, none, none, .objs [], .mv (.v 5)⟩,
    ⟨some 43, none, none, .objs [], .iaS 5 (.v 41) (.v 42)⟩,
    ⟨some 44, none, none, .objs [], .fa 1 (.v 43)⟩,
    ⟨some 45, none, none, .objs [], .ld false 1 (.v 44)⟩])) <|
    .cond (.v 45) (.ops ([
      ⟨some 46, none, none, .objs [], .fa 0 (.v 6)⟩,
      ⟨none, none, none, .objs [], .st 1 (.v 46) (.c (.sc (.int .i64 2)))⟩])) (.nop)) <| mkC [0, 3, 4, 5, 6] <|
    .ops ([
    ⟨some 47, none, none, .objs [], .mv (.v 3)⟩,
    ⟨some 48, none, none, .objs [], .ld true 4 (.v 6)⟩,
    ⟨some 49, none, none, .objs [], .bs false 4 (.agg [(.sc (.int .i64 0)), (.sc (.int .i64 0)), (.sc (.int .i64 0)), (.sc (.int .i64 0))]) 1 [(0, (.v 48))]⟩,
    ⟨some 50, none, none, .objs [], .app 4 32 (.v 47) (.v 49)⟩,
    ⟨some 3, none, none, .objs [], .gmv 4 (.v 50)⟩]))) <|
  .ops ([
  ⟨some 15, none, none, .objs [], .mv (.v 5)⟩,
  ⟨some 16, none, none, .objs [], .bin .add false (.v 15) (.c (.sc (.int .i64 1)))⟩,
  ⟨some 5, none, none, .objs [], .mv (.v 16)⟩])
noncomputable def il11l0 : C := il11l0b
theorem il11l0_go {P : Program} {pol : Pol} {K : Oracle} {I : Inl} {n : Nat} {f : FuncId} {R : Xit → FEnv → Heap → Prop} {e : FEnv} {h : Heap} : wc P pol K I n f il11l0 R e h = wc P pol K I n f il11l0b R e h := (fun x => x) rfl

noncomputable def il11c : C :=
  .seq (.ops ([
  ⟨some 2, none, none, .objs [], .mv (.c (.sc (.slice none 0 0)))⟩])) <|
  .seq (.ops ([
  ⟨some 3, none, none, .objs [], .gmv 4 (.c (.sc (.slice none 0 0)))⟩])) <|
  .seq (.ops ([
  ⟨some 4, none, none, .objs [], .mv (.c (.sc (.int .i64 0)))⟩])) <|
  .seq (.seq (.ops ([
  ⟨some 5, none, none, .objs [], .mv (.c (.sc (.int .i64 0)))⟩])) <|
  .block 0 (.loop (some [0, 3, 4, 5]) il11l0)) <|
  .seq (.ops ([
  ⟨some 51, none, none, .objs [], .mv (.v 3)⟩,
  ⟨some 2, none, none, .objs [], .mv (.v 51)⟩])) <|
  .ret

theorem il11_eq : cFn Tryd.prog pol 11 = some ⟨52, il11c, [(2, none)]⟩ := by kernel_rfl

noncomputable def il13l0b : C :=
  .seq (.seq (.ops ([
  ⟨some 5, none, none, .objs [], .mv (.v 3)⟩,
  ⟨some 6, none, none, .objs [], .mv (.v 0)⟩,
  ⟨some 7, none, none, .objs [], .lenS (.v 6)⟩,
  ⟨some 8, none, none, .objs [], .bin .lss false (.v 5) (.v 7)⟩])) <|
  .cond (.v 8) (.nop) (.exit 0)) <|
  .seq (.block 1 (.seq (.ops ([
    ⟨some 11, none, none, .objs [], .mv (.v 0)⟩,
    ⟨some 12, none, none, .objs [], .mv (.v 3)⟩,
    ⟨some 13, none, none, .objs [], .iaS 4 (.v 11) (.v 12)⟩,
    ⟨some 14, none, none, .objs [], .ld true 4 (.v 13)⟩,
    ⟨some 4, none, none, .objs [], .nw 4 (.agg [(.sc (.int .i64 0)), (.sc (.int .i64 0)), (.sc (.int .i64 0)), (.sc (.bool false))])⟩,
    ⟨none, none, none, .objs [], .st 4 (.v 4) (.v 14)⟩])) <|
    .seq (.opsD [] ([
    ⟨some 15, none, none, .objs [], .fa 0 (.v 4)⟩,
    ⟨some 16, none, none, .objs [(.v 15)], .ld false 1 (.v 15)⟩,
    ⟨some 17, none, none, .objs [], .bin .lss false (.v 16) (.c (.sc (.int .i64 1)))⟩,
    ⟨some 18, none, none, .objs [], .mv (.v 17)⟩] ++ mkL [0, 3, 4, 18] ([
    ⟨some 19, some (18, false), none, .objs [], .fa 0 (.v 4)⟩,
    ⟨some 20, some (18, false), none, .objs [(.v 19)], .ld false 1 (.v 19)⟩,
    ⟨some 21, some (18, false), none, .objs [], .bin .gtr false (.v 20) (.c (.sc (.int .i64 4095)))⟩,
    ⟨some 22, none, none, .objs [], .pk (.v 18) (.c (.sc (.bool true))) (.v 21)⟩,
    ⟨some 23, none, none, .objs [], .mv (.v 22)⟩,
    ⟨some 24, some (23, false), none, .objs [], .mv (.v 3)⟩,
    ⟨some 25, some (23, false), none, .objs [], .bin .gtr false (.v 24) (.c (.sc (.int .i64 0)))⟩,
    ⟨some 26, some (23, false), none, .objs [], .mv (.v 25)⟩,
    ⟨some 27, some (26, true), none, .objs [], .mv (.v 0)⟩,
    ⟨some 28, some (26, true), none, .objs [], .mv (.v 3)⟩,
    ⟨some 29, some (26, true), none, .objs [], .bin .sub false (.v 28) (.c (.sc (.int .i64 1)))⟩,
    ⟨some 30, some (26, true), none, .objs [], .iaS 4 (.v 27) (.v 29)⟩,
    ⟨some 31, some (26, true), none, .objs [], .fa 0 (.v 30)⟩,
    ⟨some 32, some (26, true), none, .objs [(.v 31)], .ld false 1 (.v 31)⟩] ++ mkL [0, 3, 4, 23, 26, 32] ([
    ⟨some 33, some (26, true), none, .objs [], .fa 0 (.v 4)⟩,
    ⟨some 34, some (26, true), none, .objs [(.v 33)], .ld false 1 (.v 33)⟩,
    ⟨some 35, some (26, true), none, .objs [], .bin .geq false (.v 32) (.v 34)⟩,
    ⟨some 36, some (23, false), none, .objs [], .pk (.v 26) (.v 35) (.c (.sc (.bool false)))⟩,
    ⟨some 37, none, none, .objs [], .pk (.v 23) (.c (.sc (.bool true))) (.v 36)⟩,
    ⟨some 38, none, none, .objs [], .mv (.v 37)⟩,
    ⟨some 39, some (38, false), none, .objs [], .fa 1 (.v 4)⟩,
    ⟨some 40, some (38, false), none, .objs [(.v 39)], .ld false 1 (.v 39)⟩,
    ⟨some 41, some (38, false), none, .objs [], .bin .lss false (.v 40) (.c (.sc (.int .i64 0)))⟩,
    ⟨some 42, none, none, .objs [], .pk (.v 38) (.c (.sc (.bool true))) (.v 41)⟩,
    ⟨some 43, none, none, .objs [], .mv (.v 42)⟩,
    ⟨some 44, some (43, false), none, .objs [], .fa 1 (.v 4)⟩,
    ⟨some 45, some (43, false), none, .objs [(.v 44)], .ld false 1 (.v 44)⟩,
    ⟨some 46, some (43, false), none, .objs [], .fa 2 (.v 4)⟩] ++ mkL [0, 3, 4, 43, 45, 46] ([
    ⟨some 47, some (43, false), none, .objs [(.v 46)], .ld false 1 (.v 46)⟩,
    ⟨some 48, some (43, false), none, .objs [], .bin .gtr false (.v 45) (.v 47)⟩,
    ⟨some 49, none, none, .objs [], .pk (.v 43) (.c (.sc (.bool true))) (.v 48)⟩,
    ⟨some 50, none, none, .objs [], .mv (.v 49)⟩,
    ⟨some 51, some (50, false), none, .objs [], .fa 2 (.v 4)⟩,
    ⟨some 52, some (50, false), none, .objs [(.v 51)], .ld false 1 (.v 51)⟩,
    ⟨some 53, some (50, false), none, .objs [], .bin .gtr false (.v 52) (.c (.sc (.int .i64 1099511627776)))⟩,
    ⟨some 54, none, none, .objs [], .pk (.v 50) (.c (.sc (.bool true))) (.v 53)⟩]))))) <|
    .cond (.v 54) (.seq (.ops ([
      ⟨some 2, none, none, .objs [], .mv (.c (.sc (.bool false)))⟩])) <|
      .ret) (.nop))) <|
  .ops ([
  ⟨some 9, none, none, .objs [], .mv (.v 3)⟩,
  ⟨some 10, none, none, .objs [], .bin .add false (.v 9) (.c (.sc (.int .i64 1)))⟩,
  ⟨some 3, none, none, .objs [], .mv (.v 10)⟩])
noncomputable def il13l0 : C := il13l0b
theorem il13l0_go {P : Program} {pol : Pol} {K : Oracle} {I : Inl} {n : Nat} {f : FuncId} {R : Xit → FEnv → Heap → Prop} {e : FEnv} {h : Heap} : wc P pol K I n f il13l0 R e h = wc P pol K I n f il13l0b R e h := (fun x => x) rfl

noncomputable def il13c : C :=
  .seq (.ops ([
  ⟨some 2, none, none, .objs [], .mv (.c (.sc (.bool false)))⟩])) <|
  .seq (.seq (.ops ([
  ⟨some 3, none, none, .objs [], .mv (.c (.sc (.int .i64 0)))⟩])) <|
  .block 0 (.loop (some [0, 3]) il13l0)) <|
  .seq (.ops ([
  ⟨some 55, none, none, .objs [], .mv (.v 0)⟩,
  ⟨some 56, none, none, .objs [], .lenS (.v 55)⟩,
  ⟨some 57, none, none, .objs [], .bin .leq false (.v 56) (.c (.sc (.int .i64 12)))⟩,
  ⟨some 2, none, none, .objs [], .mv (.v 57)⟩])) <|
  .ret

theorem il13_eq : cFn Tryd.prog pol 13 = some ⟨58, il13c, [(2, none)]⟩ := by kernel_rfl

noncomputable def il14l0b : C :=
  .seq (.seq (.ops ([
  ⟨some 5, none, none, .objs [], .mv (.v 3)⟩,
  ⟨some 6, none, none, .objs [], .mv (.v 0)⟩,
  ⟨some 7, none, none, .objs [], .lenS (.v 6)⟩,
  ⟨some 8, none, none, .objs [], .bin .lss false (.v 5) (.v 7)⟩])) <|
  .cond (.v 8) (.nop) (.exit 0)) <|
  .seq (.block 1 (.seq (.ops ([
    ⟨some 11, none, none, .objs [], .mv (.v 0)⟩,
    ⟨some 12, none, none, .objs [], .mv (.v 3)⟩,
    ⟨some 13, none, none, .objs [], .iaS 4 (.v 11) (.v 12)⟩,
    ⟨some 14, none, none, .objs [], .ld true 4 (.v 13)⟩,
    ⟨some 4, none, none, .objs [], .nw 4 (.agg [(.sc (.int .i64 0)), (.sc (.int .i64 0)), (.sc (.int .i64 0)), (.sc (.int .i64 0))])⟩,
    ⟨none, none, none, .objs [], .st 4 (.v 4) (.v 14)⟩])) <|
    .seq (.opsD [] ([
    ⟨some 15, none, none, .objs [], .fa 0 (.v 4)⟩,
    ⟨some 16, none, none, .objs [(.v 15)], .ld false 1 (.v 15)⟩,
    ⟨some 17, none, none, .objs [], .bin .neq false (.v 16) (.c (.sc (.int .i64 1)))⟩,
    ⟨some 18, none, none, .objs [], .mv (.v 17)⟩] ++ mkL [0, 3, 4, 18] ([
    ⟨some 19, some (18, true), none, .objs [], .fa 0 (.v 4)⟩,
    ⟨some 20, some (18, true), none, .objs [(.v 19)], .ld false 1 (.v 19)⟩,
    ⟨some 21, some (18, true), none, .objs [], .bin .neq false (.v 20) (.c (.sc (.int .i64 2)))⟩,
    ⟨some 22, none, none, .objs [], .pk (.v 18) (.v 21) (.c (.sc (.bool false)))⟩,
    ⟨some 23, none, none, .objs [], .mv (.v 22)⟩,
    ⟨some 24, some (23, false), none, .objs [], .fa 1 (.v 4)⟩,
    ⟨some 25, some (23, false), none, .objs [(.v 24)], .ld false 1 (.v 24)⟩,
    ⟨some 26, some (23, false), none, .objs [], .bin .lss false (.v 25) (.c (.sc (.int .i64 0)))⟩,
    ⟨some 27, none, none, .objs [], .pk (.v 23) (.c (.sc (.bool true))) (.v 26)⟩,
    ⟨some 28, none, none, .objs [], .mv (.v 27)⟩,
    ⟨some 29, some (28, false), none, .objs [], .fa 1 (.v 4)⟩,
    ⟨some 30, some (28, false), none, .objs [(.v 29)], .ld false 1 (.v 29)⟩,
    ⟨some 31, some (28, false), none, .objs [], .bin .gtr false (.v 30) (.c (.sc (.int .i64 4095)))⟩,
    ⟨some 32, none, none, .objs [], .pk (.v 28) (.c (.sc (.bool true))) (.v 31)⟩] ++ mkL [0, 3, 4, 32] ([
    ⟨some 33, none, none, .objs [], .mv (.v 32)⟩,
    ⟨some 34, some (33, false), none, .objs [], .fa 2 (.v 4)⟩,
    ⟨some 35, some (33, false), none, .objs [(.v 34)], .ld false 1 (.v 34)⟩,
    ⟨some 36, some (33, false), none, .objs [], .bin .lss false (.v 35) (.c (.sc (.int .i64 0)))⟩,
    ⟨some 37, none, none, .objs [], .pk (.v 33) (.c (.sc (.bool true))) (.v 36)⟩,
    ⟨some 38, none, none, .objs [], .mv (.v 37)⟩,
    ⟨some 39, some (38, false), none, .objs [], .fa 2 (.v 4)⟩,
    ⟨some 40, some (38, false), none, .objs [(.v 39)], .ld false 1 (.v 39)⟩,
    ⟨some 41, some (38, false), none, .objs [], .bin .gtr false (.v 40) (.c (.sc (.int .i64 65535)))⟩,
    ⟨some 42, none, none, .objs [], .pk (.v 38) (.c (.sc (.bool true))) (.v 41)⟩,
    ⟨some 43, none, none, .objs [], .mv (.v 42)⟩,
    ⟨some 44, some (43, false), none, .objs [], .fa 3 (.v 4)⟩,
    ⟨some 45, some (43, false), none, .objs [(.v 44)], .ld false 1 (.v 44)⟩,
    ⟨some 46, some (43, false), none, .objs [], .bin .lss false (.v 45) (.c (.sc (.int .i64 0)))⟩] ++ mkL [0, 3, 4, 43, 46] ([
    ⟨some 47, none, none, .objs [], .pk (.v 43) (.c (.sc (.bool true))) (.v 46)⟩,
    ⟨some 48, none, none, .objs [], .mv (.v 47)⟩,
    ⟨some 49, some (48, false), none, .objs [], .fa 3 (.v 4)⟩,
    ⟨some 50, some (48, false), none, .objs [(.v 49)], .ld false 1 (.v 49)⟩,
    ⟨some 51, some (48, false), none, .objs [], .bin .gtr false (.v 50) (.c (.sc (.int .i64 1099511627776)))⟩,
    ⟨some 52, none, none, .objs [], .pk (.v 48) (.c (.sc (.bool true))) (.v 51)⟩,
    ⟨some 53, none, none, .objs [], .mv (.v 52)⟩,
    ⟨some 54, some (53, false), none, .objs [], .mv (.v 3)⟩,
    ⟨some 55, some (53, false), none, .objs [], .bin .gtr false (.v 54) (.c (.sc (.int .i64 0)))⟩,
    ⟨some 56, some (53, false), none, .objs [], .mv (.v 55)⟩,
    ⟨some 57, some (56, true), none, .objs [], .mv (.v 0)⟩,
    ⟨some 58, some (56, true), none, .objs [], .mv (.v 3)⟩,
    ⟨some 59, some (56, true), none, .objs [], .bin .sub false (.v 58) (.c (.sc (.int .i64 1)))⟩,
    ⟨some 60, some (56, true), none, .objs [], .iaS 4 (.v 57) (.v 59)⟩] ++ mkL [0, 3, 4, 53, 56, 60] ([
    ⟨some 61, some (56, true), none, .objs [], .fa 3 (.v 60)⟩,
    ⟨some 62, some (56, true), none, .objs [(.v 61)], .ld false 1 (.v 61)⟩,
    ⟨some 63, some (56, true), none, .objs [], .fa 3 (.v 4)⟩,
    ⟨some 64, some (56, true), none, .objs [(.v 63)], .ld false 1 (.v 63)⟩,
    ⟨some 65, some (56, true), none, .objs [], .bin .gtr false (.v 62) (.v 64)⟩,
    ⟨some 66, some (53, false), none, .objs [], .pk (.v 56) (.v 65) (.c (.sc (.bool false)))⟩,
    ⟨some 67, none, none, .objs [], .pk (.v 53) (.c (.sc (.bool true))) (.v 66)⟩])))))) <|
    .cond (.v 67) (.seq (.ops ([
      ⟨some 2, none, none, .objs [], .mv (.c (.sc (.bool false)))⟩])) <|
      .ret) (.nop))) <|
  .ops ([
  ⟨some 9, none, none, .objs [], .mv (.v 3)⟩,
  ⟨some 10, none, none, .objs [], .bin .add false (.v 9) (.c (.sc (.int .i64 1)))⟩,
  ⟨some 3, none, none, .objs [], .mv (.v 10)⟩])
noncomputable def il14l0 : C := il14l0b
theorem il14l0_go {P : Program} {pol : Pol} {K : Oracle} {I : Inl} {n : Nat} {f : FuncId} {R : Xit → FEnv → Heap → Prop} {e : FEnv} {h : Heap} : wc P pol K I n f il14l0 R e h = wc P pol K I n f il14l0b R e h := (fun x => x) rfl

noncomputable def il14c : C :=
  .seq (.ops ([
  ⟨some 2, none, none, .objs [], .mv (.c (.sc (.bool false)))⟩])) <|
  .seq (.seq (.ops ([
  ⟨some 3, none, none, .objs [], .mv (.c (.sc (.int .i64 0)))⟩])) <|
  .block 0 (.loop (some [0, 3]) il14l0)) <|
  .seq (.ops ([
  ⟨some 68, none, none, .objs [], .mv (.v 0)⟩,
  ⟨some 69, none, none, .objs [], .lenS (.v 68)⟩,
  ⟨some 70, none, none, .objs [], .bin .leq false (.v 69) (.c (.sc (.int .i64 4096)))⟩,
  ⟨some 2, none, none, .objs [], .mv (.v 70)⟩])) <|
  .ret

theorem il14_eq : cFn Tryd.prog pol 14 = some ⟨71, il14c, [(2, none)]⟩ := by kernel_rfl

noncomputable def il26l0b : C :=
  .seq (.ops ([
  ⟨some 12, none, none, .objs [], .bin .lss false (.v 11) (.v 10)⟩])) <|
  .seq (.cond (.v 12) (.nop) (.exit 0)) <|
  .seq (.block 1 (.seq (.ops ([
    ⟨some 13, none, none, .objs [], .iaS 4 (.v 9) (.v 11)⟩,
    ⟨some 14, none, none, .objs [], .ld true 4 (.v 13)⟩,
    ⟨some 5, none, none, .objs [], .nw 4 (.agg [(.sc (.int .i64 0)), (.sc (.int .i64 0)), (.sc (.int .i64 0)), (.sc (.bool false))])⟩,
    ⟨none, none, none, .objs [], .st 4 (.v 5) (.v 14)⟩])) <|
    .seq (.seq (.ops ([
    ⟨some 15, none, none, .objs [], .fa 0 (.v 5)⟩,
    ⟨some 16, none, none, .objs [], .ld false 1 (.v 15)⟩,
    ⟨some 17, none, none, .objs [], .mv (.v 3)⟩,
    ⟨some 18, none, none, .objs [], .bin .leq false (.v 16) (.v 17)⟩,
    ⟨some 19, none, none, .objs [], .mv (.v 18)⟩,
    ⟨some 20, some (19, false), none, .objs [], .fa 0 (.v 5)⟩,
    ⟨some 21, some (19, false), none, .objs [], .ld false 1 (.v 20)⟩,
    ⟨some 22, some (19, false), none, .objs [], .bin .gtr false (.v 21) (.c (.sc (.int .i64 4095)))⟩,
    ⟨some 23, none, none, .objs [], .pk (.v 19) (.c (.sc (.bool true))) (.v 22)⟩] ++ mkL [5, 9, 10, 11, 23] ([
    ⟨some 24, none, none, .objs [], .mv (.v 23)⟩,
    ⟨some 25, some (24, false), none, .objs [], .fa 1 (.v 5)⟩,
    ⟨some 26, some (24, false), none, .objs [], .ld false 1 (.v 25)⟩,
    ⟨some 27, some (24, false), none, .objs [], .bin .lss false (.v 26) (.c (.sc (.int .i64 0)))⟩,
    ⟨some 28, none, none, .objs [], .pk (.v 24) (.c (.sc (.bool true))) (.v 27)⟩,
    ⟨some 29, none, none, .objs [], .mv (.v 28)⟩,
    ⟨some 30, some (29, false), none, .objs [], .fa 1 (.v 5)⟩,
    ⟨some 31, some (29, false), none, .objs [], .ld false 1 (.v 30)⟩,
    ⟨some 32, some (29, false), none, .objs [], .fa 2 (.v 5)⟩,
    ⟨some 33, some (29, false), none, .objs [], .ld false 1 (.v 32)⟩,
    ⟨some 34, some (29, false), none, .objs [], .bin .gtr false (.v 31) (.v 33)⟩,
    ⟨some 35, none, none, .objs [], .pk (.v 29) (.c (.sc (.bool true))) (.v 34)⟩,
    ⟨some 36, none, none, .objs [], .mv (.v 35)⟩,
    ⟨some 37, some (36, false), none, .objs [], .fa 2 (.v 5)⟩] ++ mkL [5, 9, 10, 11, 36, 37] ([
    ⟨some 38, some (36, false), none, .objs [], .ld false 1 (.v 37)⟩,
    ⟨some 39, some (36, false), none, .objs [], .bin .gtr false (.v 38) (.c (.sc (.int .i64 1099511627776)))⟩,
    ⟨some 40, none, none, .objs [], .pk (.v 36) (.c (.sc (.bool true))) (.v 39)⟩])))) <|
    .cond (.v 40) (.seq (.ops ([
      ⟨some 2, none, none, .objs [], .mv (.c (.sc (.int .i64 541)))⟩])) <|
      .ret) (.nop)) <|
    .ops ([
    ⟨some 41, none, none, .objs [], .fa 0 (.v 5)⟩,
    ⟨some 42, none, none, .objs [], .ld false 1 (.v 41)⟩,
    ⟨some 3, none, none, .objs [], .mv (.v 42)⟩]))) <|
  .ops ([
  ⟨some 43, none, none, .objs [], .bin .add false (.v 11) (.c (.sc (.int .i64 1)))⟩,
  ⟨some 11, none, none, .objs [], .mv (.v 43)⟩])
noncomputable def il26l0 : C := il26l0b
theorem il26l0_go {P : Program} {pol : Pol} {K : Oracle} {I : Inl} {n : Nat} {f : FuncId} {R : Xit → FEnv → Heap → Prop} {e : FEnv} {h : Heap} : wc P pol K I n f il26l0 R e h = wc P pol K I n f il26l0b R e h := (fun x => x) rfl

noncomputable def il26c : C :=
  .seq (.ops ([
  ⟨some 2, none, none, .objs [], .mv (.c (.sc (.int .i64 0)))⟩])) <|
  .seq (.seq (.ops ([
  ⟨some 6, none, none, .objs [], .mv (.v 0)⟩,
  ⟨some 7, none, none, .objs [], .lenS (.v 6)⟩,
  ⟨some 8, none, none, .objs [], .bin .gtr false (.v 7) (.c (.sc (.int .i64 12)))⟩])) <|
  .cond (.v 8) (.seq (.ops ([
    ⟨some 2, none, none, .objs [], .mv (.c (.sc (.int .i64 541)))⟩])) <|
    .ret) (.nop)) <|
  .seq (.ops ([
  ⟨some 3, none, none, .objs [], .mv (.c (.sc (.int .i64 0)))⟩])) <|
  .seq (.seq (.ops ([
  ⟨some 9, none, none, .objs [], .mv (.v 0)⟩,
  ⟨some 10, none, none, .objs [], .lenS (.v 9)⟩,
  ⟨some 11, none, none, .objs [], .mv (.c (.sc (.int .i64 0)))⟩])) <|
  .block 0 (.loop (some [3, 9, 10, 11]) il26l0)) <|
  .seq (.ops ([
  ⟨some 2, none, none, .objs [], .mv (.c (.sc (.int .i64 0)))⟩])) <|
  .ret

theorem il26_eq : cFn Tryd.prog pol 26 = some ⟨44, il26c, [(2, none)]⟩ := by kernel_rfl

noncomputable def il27c : C :=
  .seq (.ops ([
  ⟨some 2, none, none, .objs [], .mv (.c (.sc (.slice none 0 0)))⟩])) <|
  .seq (.seq (.ops ([
  ⟨some 3, none, none, .objs [], .mv (.v 0)⟩,
  ⟨some 4, none, none, .objs [], .raw (opOf Tryd.prog 27 1 1)⟩])) <|
  .cond (.v 4) (.seq (.ops ([
    ⟨some 2, none, none, .objs [], .mv (.c (.sc (.slice none 0 0)))⟩])) <|
    .ret) (.nop)) <|
  .seq (.ops ([
  ⟨some 5, none, none, .objs [], .bs false 4 (.agg [(.sc (.int .i64 0)), (.sc (.int .i64 0)), (.sc (.int .i64 0)), (.sc (.bool false))]) 0 []⟩,
  ⟨some 6, none, none, .objs [], .mv (.v 0)⟩,
  ⟨some 7, none, none, .objs [], .app 4 32 (.v 5) (.v 6)⟩,
  ⟨some 2, none, none, .objs [], .mv (.v 7)⟩])) <|
  .ret

theorem il27_eq : cFn Tryd.prog pol 27 = some ⟨8, il27c, [(2, none)]⟩ := by kernel_rfl
theorem raw27_1_1 {e : FEnv} {h : Heap} : iStep Tryd.prog pol 27 e h (.raw (opOf Tryd.prog 27 1 1)) = vOf h (binE Tryd.prog false 22 (.tmp 3) (.const (.slice none 0 0)) (Src.get e (.v 3)) (Src.get e (.c (.sc (.slice none 0 0))))) := raw_eql (x := (.tmp 3)) (y := (.const (.slice none 0 0))) (s := 22) (by kernel_rfl)

noncomputable def il28c : C :=
  .seq (.ops ([
  ⟨some 2, none, none, .objs [], .mv (.c (.sc (.slice none 0 0)))⟩])) <|
  .seq (.seq (.ops ([
  ⟨some 3, none, none, .objs [], .mv (.v 0)⟩,
  ⟨some 4, none, none, .objs [], .raw (opOf Tryd.prog 28 1 1)⟩])) <|
  .cond (.v 4) (.seq (.ops ([
    ⟨some 2, none, none, .objs [], .mv (.c (.sc (.slice none 0 0)))⟩])) <|
    .ret) (.nop)) <|
  .seq (.ops ([
  ⟨some 5, none, none, .objs [], .bs false 4 (.agg [(.sc (.int .i64 0)), (.sc (.int .i64 0)), (.sc (.int .i64 0)), (.sc (.int .i64 0))]) 0 []⟩,
  ⟨some 6, none, none, .objs [], .mv (.v 0)⟩,
  ⟨some 7, none, none, .objs [], .app 4 32 (.v 5) (.v 6)⟩,
  ⟨some 2, none, none, .objs [], .mv (.v 7)⟩])) <|
  .ret

theorem il28_eq : cFn Tryd.prog pol 28 = some ⟨8, il28c, [(2, none)]⟩ := by kernel_rfl
theorem raw28_1_1 {e : FEnv} {h : Heap} : iStep Tryd.prog pol 28 e h (.raw (opOf Tryd.prog 28 1 1)) = vOf h (binE Tryd.prog false 23 (.tmp 3) (.const (.slice none 0 0)) (Src.get e (.v 3)) (Src.get e (.c (.sc (.slice none 0 0))))) := raw_eql (x := (.tmp 3)) (y := (.const (.slice none 0 0))) (s := 23) (by kernel_rfl)

noncomputable def il29l0b : C :=
  .seq (.ops ([
  ⟨some 12, none, none, .objs [], .bin .lss false (.v 11) (.v 10)⟩])) <|
  .seq (.cond (.v 12) (.nop) (.exit 0)) <|
  .seq (.block 1 (.seq (.ops ([
    ⟨some 13, none, none, .objs [], .iaS 4 (.v 9) (.v 11)⟩,
    ⟨some 14, none, none, .objs [], .ld true 4 (.v 13)⟩,
    ⟨some 5, none, none, .objs [], .nw 4 (.agg [(.sc (.int .i64 0)), (.sc (.int .i64 0)), (.sc (.int .i64 0)), (.sc (.int .i64 0))])⟩,
    ⟨none, none, none, .objs [], .st 4 (.v 5) (.v 14)⟩])) <|
    .seq (.seq (.ops ([
    ⟨some 15, none, none, .objs [], .fa 0 (.v 5)⟩,
    ⟨some 16, none, none, .objs [], .ld false 1 (.v 15)⟩,
    ⟨some 17, none, none, .objs [], .bin .neq false (.v 16) (.c (.sc (.int .i64 1)))⟩,
    ⟨some 18, none, none, .objs [], .mv (.v 17)⟩,
    ⟨some 19, some (18, true), none, .objs [], .fa 0 (.v 5)⟩,
    ⟨some 20, some (18, true), none, .objs [], .ld false 1 (.v 19)⟩,
    ⟨some 21, some (18, true), none, .objs [], .bin .neq false (.v 20) (.c (.sc (.int .i64 2)))⟩,
    ⟨some 22, none, none, .objs [], .pk (.v 18) (.v 21) (.c (.sc (.bool false)))⟩,
    ⟨some 23, none, none, .objs [], .mv (.v 22)⟩] ++ mkL [3, 5, 9, 10, 11, 23] ([
    ⟨some 24, some (23, false), none, .objs [], .fa 1 (.v 5)⟩,
    ⟨some 25, some (23, false), none, .objs [], .ld false 1 (.v 24)⟩,
    ⟨some 26, some (23, false), none, .objs [], .bin .lss false (.v 25) (.c (.sc (.int .i64 0)))⟩,
    ⟨some 27, none, none, .objs [], .pk (.v 23) (.c (.sc (.bool true))) (.v 26)⟩,
    ⟨some 28, none, none, .objs [], .mv (.v 27)⟩,
    ⟨some 29, some (28, false), none, .objs [], .fa 1 (.v 5)⟩,
    ⟨some 30, some (28, false), none, .objs [], .ld false 1 (.v 29)⟩,
    ⟨some 31, some (28, false), none, .objs [], .bin .gtr false (.v 30) (.c (.sc (.int .i64 4095)))⟩,
    ⟨some 32, none, none, .objs [], .pk (.v 28) (.c (.sc (.bool true))) (.v 31)⟩,
    ⟨some 33, none, none, .objs [], .mv (.v 32)⟩,
    ⟨some 34, some (33, false), none, .objs [], .fa 2 (.v 5)⟩,
    ⟨some 35, some (33, false), none, .objs [], .ld false 1 (.v 34)⟩,
    ⟨some 36, some (33, false), none, .objs [], .bin .lss false (.v 35) (.c (.sc (.int .i64 0)))⟩,
    ⟨some 37, none, none, .objs [], .pk (.v 33) (.c (.sc (.bool true))) (.v 36)⟩] ++ mkL [3, 5, 9, 10, 11, 37] ([
    ⟨some 38, none, none, .objs [], .mv (.v 37)⟩,
    ⟨some 39, some (38, false), none, .objs [], .fa 2 (.v 5)⟩,
    ⟨some 40, some (38, false), none, .objs [], .ld false 1 (.v 39)⟩,
    ⟨some 41, some (38, false), none, .objs [], .bin .geq false (.v 40) (.c (.sc (.int .i64 65536)))⟩,
    ⟨some 42, none, none, .objs [], .pk (.v 38) (.c (.sc (.bool true))) (.v 41)⟩,
    ⟨some 43, none, none, .objs [], .mv (.v 42)⟩,
    ⟨some 44, some (43, false), none, .objs [], .fa 3 (.v 5)⟩,
    ⟨some 45, some (43, false), none, .objs [], .ld false 1 (.v 44)⟩,
    ⟨some 46, some (43, false), none, .objs [], .mv (.v 3)⟩,
    ⟨some 47, some (43, false), none, .objs [], .bin .lss false (.v 45) (.v 46)⟩,
    ⟨some 48, none, none, .objs [], .pk (.v 43) (.c (.sc (.bool true))) (.v 47)⟩,
    ⟨some 49, none, none, .objs [], .mv (.v 48)⟩,
    ⟨some 50, some (49, false), none, .objs [], .fa 3 (.v 5)⟩,
    ⟨some 51, some (49, false), none, .objs [], .ld false 1 (.v 50)⟩] ++ mkL [5, 9, 10, 11, 49, 51] ([
    ⟨some 52, some (49, false), none, .objs [], .bin .gtr false (.v 51) (.c (.sc (.int .i64 1099511627776)))⟩,
    ⟨some 53, none, none, .objs [], .pk (.v 49) (.c (.sc (.bool true))) (.v 52)⟩]))))) <|
    .cond (.v 53) (.seq (.ops ([
      ⟨some 2, none, none, .objs [], .mv (.c (.sc (.int .i64 540)))⟩])) <|
      .ret) (.nop)) <|
    .ops ([
    ⟨some 54, none, none, .objs [], .fa 3 (.v 5)⟩,
    ⟨some 55, none, none, .objs [], .ld false 1 (.v 54)⟩,
    ⟨some 3, none, none, .objs [], .mv (.v 55)⟩]))) <|
  .ops ([
  ⟨some 56, none, none, .objs [], .bin .add false (.v 11) (.c (.sc (.int .i64 1)))⟩,
  ⟨some 11, none, none, .objs [], .mv (.v 56)⟩])
noncomputable def il29l0 : C := il29l0b
theorem il29l0_go {P : Program} {pol : Pol} {K : Oracle} {I : Inl} {n : Nat} {f : FuncId} {R : Xit → FEnv → Heap → Prop} {e : FEnv} {h : Heap} : wc P pol K I n f il29l0 R e h = wc P pol K I n f il29l0b R e h := (fun x => x) rfl

noncomputable def il29c : C :=
  .seq (.ops ([
  ⟨some 2, none, none, .objs [], .mv (.c (.sc (.int .i64 0)))⟩])) <|
  .seq (.seq (.ops ([
  ⟨some 6, none, none, .objs [], .mv (.v 0)⟩,
  ⟨some 7, none, none, .objs [], .lenS (.v 6)⟩,
  ⟨some 8, none, none, .objs [], .bin .gtr false (.v 7) (.c (.sc (.int .i64 4096)))⟩])) <|
  .cond (.v 8) (.seq (.ops ([
    ⟨some 2, none, none, .objs [], .mv (.c (.sc (.int .i64 540)))⟩])) <|
    .ret) (.nop)) <|
  .seq (.ops ([
  ⟨some 3, none, none, .objs [], .mv (.c (.sc (.int .i64 0)))⟩])) <|
  .seq (.seq (.ops ([
  ⟨some 9, none, none, .objs [], .mv (.v 0)⟩,
  ⟨some 10, none, none, .objs [], .lenS (.v 9)⟩,
  ⟨some 11, none, none, .objs [], .mv (.c (.sc (.int .i64 0)))⟩])) <|
  .block 0 (.loop (some [3, 9, 10, 11]) il29l0)) <|
  .seq (.ops ([
  ⟨some 2, none, none, .objs [], .mv (.c (.sc (.int .i64 0)))⟩])) <|
  .ret

theorem il29_eq : cFn Tryd.prog pol 29 = some ⟨57, il29c, [(2, none)]⟩ := by kernel_rfl

attribute [go_sem] eqT34
attribute [go_sem] eqT22
attribute [go_sem] eqT23
attribute [go_sem] raw27_1_1
attribute [go_sem] raw28_1_1
end Go.Proofs.YthcaepnclhgkmaaDoor
