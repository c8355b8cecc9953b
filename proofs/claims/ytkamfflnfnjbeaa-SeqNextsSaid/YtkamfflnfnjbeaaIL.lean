/- Functions of the program, worked out ahead (printed by a program; each is checked against the program by the kernel). -/
import Derived.Test.YtkamfflnfnjbeaaILBase
set_option linter.unusedSimpArgs false
namespace Go.Proofs.Ytkamfflnfnjbeaa
open Go Go.Abs
set_option maxRecDepth 100000
set_option linter.unusedVariables false

theorem eqT31 {a0 b0 : Int} {a1 b1 : Int} {a2 b2 : Int} {a3 b3 : Int} {a4 b4 : Int} : aEq Try.prog 31 (.t (.agg [.sc (.int .i64 a0), .sc (.int .i64 a1), .sc (.int .i64 a2), .sc (.int .i64 a3), .sc (.int .i64 a4)])) (.t (.agg [.sc (.int .i64 b0), .sc (.int .i64 b1), .sc (.int .i64 b2), .sc (.int .i64 b3), .sc (.int .i64 b4)])) = some (decide (a0 = b0 ∧ a1 = b1 ∧ a2 = b2 ∧ a3 = b3 ∧ a4 = b4)) :=
  (show aEq Try.prog 31 (.t (.agg [.sc (.int .i64 a0), .sc (.int .i64 a1), .sc (.int .i64 a2), .sc (.int .i64 a3), .sc (.int .i64 a4)])) (.t (.agg [.sc (.int .i64 b0), .sc (.int .i64 b1), .sc (.int .i64 b2), .sc (.int .i64 b3), .sc (.int .i64 b4)])) = some ((a0 == b0) && ((a1 == b1) && ((a2 == b2) && ((a3 == b3) && ((a4 == b4) && true))))) by kernel_rfl).trans (by congr 1; rw [Bool.eq_iff_iff]; simp [and_assoc])

theorem eqT46 : isSliceT Try.prog 46 = true := by kernel_rfl

theorem eqT50 {a0 b0 : Int} {a1 b1 : Int} : aEq Try.prog 50 (.t (.agg [.sc (.int .i64 a0), .sc (.int .i64 a1)])) (.t (.agg [.sc (.int .i64 b0), .sc (.int .i64 b1)])) = some (decide (a0 = b0 ∧ a1 = b1)) :=
  (show aEq Try.prog 50 (.t (.agg [.sc (.int .i64 a0), .sc (.int .i64 a1)])) (.t (.agg [.sc (.int .i64 b0), .sc (.int .i64 b1)])) = some ((a0 == b0) && ((a1 == b1) && true)) by kernel_rfl).trans (by congr 1; rw [Bool.eq_iff_iff]; simp [and_assoc])

noncomputable def il8l0b : C :=
  .seq (.ops ([
  ⟨some 75, none, none, .objs [], .bin .lss false (.v 74) (.c (.sc (.int .i64 3)))⟩])) <|
  .seq (.cond (.v 75) (.nop) (.exit 2)) <|
  .seq (.block 3 (.seq (.ops ([
    ⟨some 76, none, none, .objs [], .ixA false 1 3 1 (.v 73) (.v 74)⟩,
    ⟨some 16, none, none, .objs [], .mv (.v 76)⟩])) <|
    .seq (.ops ([
    ⟨some 78, none, none, .objs [], .mv (.v 14)⟩,
    ⟨some 79, none, none, .objs [], .mv (.v 16)⟩,
    ⟨some 80, none, none, .objs [], .call (.c (.fn (.func 24) [] [])) [(.v 78), (.v 79)]⟩,
    ⟨some 77, none, none, .objs [], .mv (.v 80)⟩,
    ⟨some 81, none, none, .objs [], .ex (.v 77) 0⟩,
    ⟨some 82, none, none, .objs [], .ex (.v 77) 1⟩,
    ⟨some 83, none, none, .objs [], .ex (.v 77) 2⟩,
    ⟨some 17, none, none, .objs [], .mv (.v 81)⟩,
    ⟨some 18, none, none, .objs [], .mv (.v 82)⟩,
    ⟨some 19, none, none, .objs [], .mv (.v 83)⟩])) <|
    .seq (.ops ([
    ⟨some 85, none, none, .objs [], .mv (.v 14)⟩] ++ mkL [2, 4, 8, 14, 16, 17, 18, 19, 47, 48, 73, 74, 85] ([
    ⟨some 86, none, none, .objs [], .mv (.v 16)⟩,
    ⟨some 87, none, none, .objs [], .call (.c (.fn (.func 28) [] [])) [(.v 85), (.v 86)]⟩,
    ⟨some 84, none, none, .objs [], .mv (.v 87)⟩,
    ⟨some 88, none, none, .objs [], .ex (.v 84) 0⟩,
    ⟨some 89, none, none, .objs [], .ex (.v 84) 1⟩,
    ⟨some 90, none, none, .objs [], .ex (.v 84) 2⟩,
    ⟨some 20, none, none, .objs [], .mv (.v 88)⟩,
    ⟨some 21, none, none, .objs [], .mv (.v 89)⟩,
    ⟨some 22, none, none, .objs [], .mv (.v 90)⟩]))) <|
    .seq (.ops ([
    ⟨some 91, none, none, .objs [], .mv (.v 17)⟩,
    ⟨some 92, none, none, .objs [], .mv (.v 20)⟩,
    ⟨some 93, none, none, .objs [], .call (.c (.fn (.func 29) [] [])) [(.v 91), (.v 92)]⟩,
    ⟨some 94, none, none, .objs [], .nt (.v 93)⟩,
    ⟨some 95, none, none, .objs [], .mv (.v 94)⟩] ++ mkL [2, 4, 8, 14, 18, 19, 21, 22, 47, 48, 73, 74, 95] ([
    ⟨some 96, some (95, false), none, .objs [], .mv (.v 18)⟩,
    ⟨some 97, some (95, false), none, .objs [], .mv (.v 21)⟩,
    ⟨some 98, some (95, false), none, .objs [], .bin .neq false (.v 96) (.v 97)⟩,
    ⟨some 99, none, none, .objs [], .pk (.v 95) (.c (.sc (.bool true))) (.v 98)⟩,
    ⟨some 100, none, none, .objs [], .mv (.v 99)⟩,
    ⟨some 101, some (100, false), none, .objs [], .mv (.v 19)⟩,
    ⟨some 102, some (100, false), none, .objs [], .mv (.v 22)⟩,
    ⟨some 103, some (100, false), none, .objs [], .bin .neq false (.v 101) (.v 102)⟩,
    ⟨some 104, none, none, .objs [], .pk (.v 100) (.c (.sc (.bool true))) (.v 103)⟩]))) <|
    .cond (.v 104) (.seq (.ops ([
      ⟨some 10, none, none, .objs [], .mv (.c (.sc (.bool false)))⟩])) <|
      .ret) (.nop))) <|
  .ops ([
  ⟨some 105, none, none, .objs [], .bin .add false (.v 74) (.c (.sc (.int .i64 1)))⟩,
  ⟨some 74, none, none, .objs [], .mv (.v 105)⟩])
noncomputable def il8l0 : C := il8l0b
theorem il8l0_go {P : Program} {pol : Pol} {K : Oracle} {I : Inl} {n : Nat} {f : FuncId} {R : Xit → FEnv → Heap → Prop} {e : FEnv} {h : Heap} : wc P pol K I n f il8l0 R e h = wc P pol K I n f il8l0b R e h := (fun x => x) rfl

noncomputable def il8l1b : C :=
  .seq (.ops ([
  ⟨some 49, none, none, .objs [], .bin .lss false (.v 48) (.c (.sc (.int .i64 3)))⟩])) <|
  .seq (.cond (.v 49) (.nop) (.exit 0)) <|
  .seq (.block 1 (.seq (.ops ([
    ⟨some 50, none, none, .objs [], .ixA false 1 3 1 (.v 47) (.v 48)⟩,
    ⟨some 14, none, none, .objs [], .mv (.v 50)⟩])) <|
    .seq (.seq (.ops ([
    ⟨some 51, none, none, .objs [], .mv (.v 14)⟩,
    ⟨some 52, none, none, .objs [], .call (.c (.fn (.func 27) [] [])) [(.v 51)]⟩,
    ⟨some 53, none, none, .objs [], .mv (.v 14)⟩,
    ⟨some 54, none, none, .objs [], .call (.c (.fn (.func 25) [] [])) [(.v 53)]⟩,
    ⟨some 55, none, none, .objs [], .bin .eql false (.v 54) (.c (.sc (.int .i64 0)))⟩,
    ⟨some 56, none, none, .objs [], .bin .neq true (.v 52) (.v 55)⟩,
    ⟨some 57, none, none, .objs [], .mv (.v 56)⟩,
    ⟨some 58, some (57, false), none, .objs [], .mv (.v 14)⟩,
    ⟨some 59, some (57, false), none, .objs [], .call (.c (.fn (.func 25) [] [])) [(.v 58)]⟩,
    ⟨some 60, some (57, false), none, .objs [], .bin .neq false (.v 59) (.c (.sc (.int .i64 0)))⟩,
    ⟨some 61, some (57, false), none, .objs [], .mv (.v 60)⟩] ++ mkL [2, 4, 8, 14, 47, 48, 57, 61] ([
    ⟨some 62, some (61, true), none, .objs [], .mv (.v 14)⟩,
    ⟨some 63, some (61, true), none, .objs [], .call (.c (.fn (.func 25) [] [])) [(.v 62)]⟩,
    ⟨some 64, some (61, true), none, .objs [], .bin .neq false (.v 63) (.c (.sc (.int .i64 490)))⟩,
    ⟨some 65, some (57, false), none, .objs [], .pk (.v 61) (.v 64) (.c (.sc (.bool false)))⟩,
    ⟨some 66, none, none, .objs [], .pk (.v 57) (.c (.sc (.bool true))) (.v 65)⟩]))) <|
    .cond (.v 66) (.seq (.ops ([
      ⟨some 10, none, none, .objs [], .mv (.c (.sc (.bool false)))⟩])) <|
      .ret) (.nop)) <|
    .seq (.ops ([
    ⟨some 67, none, none, .objs [], .mv (.v 4)⟩,
    ⟨some 68, none, none, .objs [], .fa 0 (.v 8)⟩,
    ⟨some 69, none, none, .objs [], .ld false 1 (.v 68)⟩,
    ⟨some 70, none, none, .objs [], .mv (.v 2)⟩,
    ⟨some 71, none, none, .objs [], .cv .i64 (.v 70)⟩,
    ⟨some 72, none, none, .objs [], .bin .add false (.c (.sc (.int .i64 1))) (.v 71)⟩,
    ⟨some 73, none, none, .objs [], .bd [(.sc (.int .i64 0)), (.sc (.int .i64 0)), (.sc (.int .i64 0))] [(0, 1, (.v 67)), (1, 1, (.v 69)), (2, 1, (.v 72))]⟩,
    ⟨some 74, none, none, .objs [], .mv (.c (.sc (.int .i64 0)))⟩])) <| mkC [2, 4, 8, 14, 47, 48, 73, 74] <|
    .block 2 (.loop (some [2, 4, 8, 14, 47, 48, 73, 74]) il8l0))) <|
  .ops ([
  ⟨some 106, none, none, .objs [], .bin .add false (.v 48) (.c (.sc (.int .i64 1)))⟩,
  ⟨some 48, none, none, .objs [], .mv (.v 106)⟩])
noncomputable def il8l1 : C := il8l1b
theorem il8l1_go {P : Program} {pol : Pol} {K : Oracle} {I : Inl} {n : Nat} {f : FuncId} {R : Xit → FEnv → Heap → Prop} {e : FEnv} {h : Heap} : wc P pol K I n f il8l1 R e h = wc P pol K I n f il8l1b R e h := (fun x => x) rfl

noncomputable def il8c : C :=
  .seq (.ops ([
  ⟨some 8, none, none, .objs [], .bx false (.v 3)⟩,
  ⟨some 10, none, none, .objs [], .mv (.c (.sc (.bool false)))⟩])) <|
  .seq (.seq (.ops ([
  ⟨some 23, none, none, .objs [], .call (.c (.fn (.func 15) [] [])) []⟩,
  ⟨some 24, none, none, .objs [], .nt (.v 23)⟩])) <|
  .cond (.v 24) (.seq (.ops ([
    ⟨some 10, none, none, .objs [], .mv (.c (.sc (.bool false)))⟩])) <|
    .ret) (.nop)) <|
  .seq (.ops ([
  ⟨some 25, none, none, .objs [], .mv (.v 1)⟩,
  ⟨some 26, none, none, .objs [], .call (.c (.fn (.func 23) [] [])) [(.v 25)]⟩,
  ⟨some 11, none, none, .objs [], .mv (.v 26)⟩])) <|
  .seq (.ops ([
  ⟨some 27, none, none, .objs [], .mv (.v 11)⟩,
  ⟨some 28, none, none, .objs [], .call (.c (.fn (.func 26) [] [])) [(.v 27)]⟩,
  ⟨some 12, none, none, .objs [], .mv (.v 28)⟩])) <|
  .seq (.seq (.ops ([
  ⟨some 29, none, none, .objs [], .mv (.v 12)⟩,
  ⟨some 30, none, none, .objs [], .lenS (.v 29)⟩,
  ⟨some 31, none, none, .objs [], .bin .gtr false (.v 30) (.c (.sc (.int .i64 0)))⟩])) <| mkC [0, 2, 4, 8, 11, 12, 31] <|
  .cond (.v 31) (.opsD [] ([
    ⟨some 32, none, none, .objs [], .mv (.v 12)⟩,
    ⟨some 33, none, none, .objs [], .mv (.v 2)⟩,
    ⟨some 34, none, none, .objs [], .cv .i64 (.v 33)⟩,
    ⟨some 35, none, none, .objs [], .mv (.v 12)⟩,
    ⟨some 36, none, none, .objs [(.v 35)], .lenS (.v 35)⟩,
    ⟨some 37, none, none, .objs [], .bin .rem false (.v 34) (.v 36)⟩,
    ⟨some 38, none, none, .objs [(.v 8)], .ld true 2 (.v 8)⟩,
    ⟨some 39, none, none, .objs [], .iaS 2 (.v 32) (.v 37)⟩,
    ⟨none, none, none, .objs [(.v 39)], .st 2 (.v 39) (.v 38)⟩])) (.nop)) <|
  .seq (.seq (.ops ([
  ⟨some 40, none, none, .objs [], .mv (.v 0)⟩,
  ⟨some 41, none, none, .objs [], .mv (.v 0)⟩,
  ⟨some 42, none, none, .objs [], .lenS (.v 41)⟩,
  ⟨some 43, none, none, .objs [], .mnx false (.v 42) (.c (.sc (.int .i64 14)))⟩,
  ⟨some 44, none, none, .objs [], .sl 2 (.v 40) none (some (.v 43)) none⟩] ++ mkL [2, 4, 8, 11, 12, 44] ([
  ⟨some 45, none, none, .objs [], .mv (.v 11)⟩,
  ⟨some 46, none, none, .objs [], .mv (.v 12)⟩,
  ⟨some 47, none, some [(.v 44), (.v 45), (.v 46)], .objs [], .bd [(.sc (.slice none 0 0)), (.sc (.slice none 0 0)), (.sc (.slice none 0 0))] [(0, 1, (.v 44)), (1, 1, (.v 45)), (2, 1, (.v 46))]⟩,
  ⟨some 48, none, none, .objs [], .mv (.c (.sc (.int .i64 0)))⟩]))) <|
  .block 0 (.loop (some [2, 4, 8, 47, 48]) il8l1)) <|
  .seq (.ops ([
  ⟨some 10, none, none, .objs [], .mv (.c (.sc (.bool true)))⟩])) <|
  .ret

theorem il8_eq : cFn Try.prog pol 8 = some ⟨107, il8c, [(10, none)]⟩ := by kernel_rfl

noncomputable def il16c : C :=
  .seq (.ops ([
  ⟨some 4, none, none, .objs [], .mv (.c (.sc (.int .i64 0)))⟩,
  ⟨some 5, none, none, .objs [], .mv (.c (.sc (.int .i64 0)))⟩])) <|
  .seq (.seq (.ops ([
  ⟨some 6, none, none, .objs [], .mv (.v 0)⟩,
  ⟨some 7, none, none, .objs [], .call (.c (.fn (.func 41) [] [])) [(.v 6)]⟩,
  ⟨some 8, none, none, .objs [], .nt (.v 7)⟩,
  ⟨some 9, none, none, .objs [], .mv (.v 8)⟩,
  ⟨some 10, some (9, false), none, .objs [], .mv (.v 1)⟩,
  ⟨some 11, some (9, false), none, .objs [], .call (.c (.fn (.func 41) [] [])) [(.v 10)]⟩,
  ⟨some 12, some (9, false), none, .objs [], .nt (.v 11)⟩,
  ⟨some 13, none, none, .objs [], .pk (.v 9) (.c (.sc (.bool true))) (.v 12)⟩])) <|
  .cond (.v 13) (.seq (.ops ([
    ⟨some 4, none, none, .objs [], .mv (.c (.sc (.int .i64 0)))⟩,
    ⟨some 5, none, none, .objs [], .mv (.c (.sc (.int .i64 2)))⟩])) <|
    .ret) (.nop)) <|
  .seq (.ops ([
  ⟨some 14, none, none, .objs [], .mv (.v 1)⟩,
  ⟨some 15, none, none, .objs [], .mv (.v 0)⟩] ++ mkL [14, 15] ([
  ⟨some 16, none, none, .objs [], .bin .sub false (.v 14) (.v 15)⟩,
  ⟨some 17, none, none, .objs [], .bin .add false (.v 16) (.c (.sc (.int .i64 32768)))⟩,
  ⟨some 18, none, none, .objs [], .call (.c (.fn (.func 42) [] [])) [(.v 17)]⟩,
  ⟨some 19, none, none, .objs [], .bin .sub false (.v 18) (.c (.sc (.int .i64 32768)))⟩,
  ⟨some 4, none, none, .objs [], .mv (.v 19)⟩,
  ⟨some 5, none, none, .objs [], .mv (.c (.sc (.int .i64 0)))⟩]))) <|
  .ret

theorem il16_eq : cFn Try.prog pol 16 = some ⟨20, il16c, [(4, none), (5, none)]⟩ := by kernel_rfl

noncomputable def il17c : C :=
  .seq (.ops ([
  ⟨some 4, none, none, .objs [], .mv (.c (.sc (.int .i64 0)))⟩,
  ⟨some 5, none, none, .objs [], .mv (.c (.sc (.int .i64 0)))⟩])) <|
  .seq (.seq (.ops ([
  ⟨some 6, none, none, .objs [], .mv (.v 0)⟩,
  ⟨some 7, none, none, .objs [], .call (.c (.fn (.func 41) [] [])) [(.v 6)]⟩,
  ⟨some 8, none, none, .objs [], .nt (.v 7)⟩])) <|
  .cond (.v 8) (.seq (.ops ([
    ⟨some 4, none, none, .objs [], .mv (.c (.sc (.int .i64 0)))⟩,
    ⟨some 5, none, none, .objs [], .mv (.c (.sc (.int .i64 2)))⟩])) <|
    .ret) (.nop)) <|
  .seq (.ops ([
  ⟨some 9, none, none, .objs [], .mv (.v 0)⟩,
  ⟨some 10, none, none, .objs [], .mv (.v 1)⟩,
  ⟨some 11, none, none, .objs [], .call (.c (.fn (.func 42) [] [])) [(.v 10)]⟩,
  ⟨some 12, none, none, .objs [], .bin .add false (.v 9) (.v 11)⟩,
  ⟨some 13, none, none, .objs [], .call (.c (.fn (.func 42) [] [])) [(.v 12)]⟩,
  ⟨some 4, none, none, .objs [], .mv (.v 13)⟩,
  ⟨some 5, none, none, .objs [], .mv (.c (.sc (.int .i64 0)))⟩])) <|
  .ret

theorem il17_eq : cFn Try.prog pol 17 = some ⟨14, il17c, [(4, none), (5, none)]⟩ := by kernel_rfl

noncomputable def il18l0b : C :=
  .seq (.seq (.ops ([
  ⟨some 6, none, none, .objs [], .mv (.v 5)⟩,
  ⟨some 7, none, none, .objs [], .bin .lss false (.v 6) (.c (.sc (.int .i64 32768)))⟩])) <|
  .cond (.v 7) (.nop) (.exit 0)) <|
  .seq (.block 1 (.seq (.ops ([
    ⟨some 10, none, none, .objs [], .mv (.v 0)⟩,
    ⟨some 11, none, none, .objs [], .mv (.v 5)⟩,
    ⟨some 12, none, none, .objs [], .call (.c (.fn (.func 19) [] [])) [(.v 10), (.v 11)]⟩,
    ⟨some 13, none, none, .objs [], .mv (.v 1)⟩,
    ⟨some 14, none, none, .objs [], .bin .eql false (.v 12) (.v 13)⟩])) <|
    .cond (.v 14) (.seq (.ops ([
      ⟨some 15, none, none, .objs [], .mv (.v 5)⟩,
      ⟨some 4, none, none, .objs [], .mv (.v 15)⟩])) <|
      .ret) (.nop))) <|
  .ops ([
  ⟨some 8, none, none, .objs [], .mv (.v 5)⟩,
  ⟨some 9, none, none, .objs [], .bin .add false (.v 8) (.c (.sc (.int .i64 1)))⟩,
  ⟨some 5, none, none, .objs [], .mv (.v 9)⟩])
noncomputable def il18l0 : C := il18l0b
theorem il18l0_go {P : Program} {pol : Pol} {K : Oracle} {I : Inl} {n : Nat} {f : FuncId} {R : Xit → FEnv → Heap → Prop} {e : FEnv} {h : Heap} : wc P pol K I n f il18l0 R e h = wc P pol K I n f il18l0b R e h := (fun x => x) rfl

noncomputable def il18c : C :=
  .seq (.ops ([
  ⟨some 4, none, none, .objs [], .mv (.c (.sc (.int .i64 0)))⟩])) <|
  .seq (.seq (.ops ([
  ⟨some 5, none, none, .objs [], .mv (.c (.sc (.int .i64 (-32768))))⟩])) <|
  .block 0 (.loop (some [0, 1, 5]) il18l0)) <|
  .seq (.ops ([
  ⟨some 4, none, none, .objs [], .mv (.c (.sc (.int .i64 0)))⟩])) <|
  .ret

theorem il18_eq : cFn Try.prog pol 18 = some ⟨16, il18c, [(4, none)]⟩ := by kernel_rfl

noncomputable def il19c : C :=
  .seq (.ops ([
  ⟨some 4, none, none, .objs [], .mv (.c (.sc (.int .i64 0)))⟩])) <|
  .seq (.ops ([
  ⟨some 6, none, none, .objs [], .mv (.v 0)⟩,
  ⟨some 7, none, none, .objs [], .mv (.v 1)⟩,
  ⟨some 8, none, none, .objs [], .bin .rem false (.v 7) (.c (.sc (.int .i64 65536)))⟩,
  ⟨some 9, none, none, .objs [], .bin .add false (.v 6) (.v 8)⟩,
  ⟨some 10, none, none, .objs [], .bin .rem false (.v 9) (.c (.sc (.int .i64 65536)))⟩,
  ⟨some 5, none, none, .objs [], .mv (.v 10)⟩])) <|
  .seq (.seq (.ops ([
  ⟨some 11, none, none, .objs [], .mv (.v 5)⟩,
  ⟨some 12, none, none, .objs [], .bin .lss false (.v 11) (.c (.sc (.int .i64 0)))⟩])) <|
  .cond (.v 12) (.ops ([
    ⟨some 13, none, none, .objs [], .mv (.v 5)⟩,
    ⟨some 14, none, none, .objs [], .bin .add false (.v 13) (.c (.sc (.int .i64 65536)))⟩,
    ⟨some 5, none, none, .objs [], .mv (.v 14)⟩])) (.nop)) <|
  .seq (.ops ([
  ⟨some 15, none, none, .objs [], .mv (.v 5)⟩,
  ⟨some 4, none, none, .objs [], .mv (.v 15)⟩])) <|
  .ret

theorem il19_eq : cFn Try.prog pol 19 = some ⟨16, il19c, [(4, none)]⟩ := by kernel_rfl

noncomputable def il20c : C :=
  .seq (.ops ([
  ⟨some 2, none, none, .objs [], .mv (.c (.sc (.bool false)))⟩])) <|
  .seq (.ops ([
  ⟨some 3, none, none, .objs [], .mv (.v 0)⟩,
  ⟨some 4, none, none, .objs [], .bin .geq false (.v 3) (.c (.sc (.int .i64 0)))⟩,
  ⟨some 5, none, none, .objs [], .mv (.v 4)⟩,
  ⟨some 6, some (5, true), none, .objs [], .mv (.v 0)⟩,
  ⟨some 7, some (5, true), none, .objs [], .bin .leq false (.v 6) (.c (.sc (.int .i64 65535)))⟩,
  ⟨some 8, none, none, .objs [], .pk (.v 5) (.v 7) (.c (.sc (.bool false)))⟩,
  ⟨some 2, none, none, .objs [], .mv (.v 8)⟩])) <|
  .ret

theorem il20_eq : cFn Try.prog pol 20 = some ⟨9, il20c, [(2, none)]⟩ := by kernel_rfl

noncomputable def il23l0b : C :=
  .seq (.seq (.ops ([
  ⟨some 6, none, none, .objs [], .mv (.v 5)⟩,
  ⟨some 7, none, none, .objs [], .mv (.v 0)⟩,
  ⟨some 8, none, none, .objs [], .lenS (.v 7)⟩,
  ⟨some 9, none, none, .objs [], .bin .lss false (.v 6) (.v 8)⟩,
  ⟨some 10, none, none, .objs [], .mv (.v 9)⟩,
  ⟨some 11, some (10, true), none, .objs [], .mv (.v 5)⟩,
  ⟨some 12, some (10, true), none, .objs [], .bin .lss false (.v 11) (.c (.sc (.int .i64 12)))⟩,
  ⟨some 13, none, none, .objs [], .pk (.v 10) (.v 12) (.c (.sc (.bool false)))⟩])) <|
  .cond (.v 13) (.nop) (.exit 0)) <|
  .seq (.block 1 (.seq (.ops ([
    ⟨some 16, none, none, .objs [], .mv (.v 4)⟩,
    ⟨some 17, none, none, .objs [], .bin .add false (.v 16) (.c (.sc (.int .i64 1)))⟩,
    ⟨some 18, none, none, .objs [], .mv (.v 0)⟩,
    ⟨some 19, none, none, .objs [], .mv (.v 5)⟩,
    ⟨some 20, none, none, .objs [], .iaS 2 (.v 18) (.v 19)⟩,
    ⟨some 21, none, none, .objs [], .iaA 2 1 (.v 20) (.c (.sc (.int .i64 0)))⟩] ++ mkL [0, 3, 5, 17, 21] ([
    ⟨some 22, none, none, .objs [], .ld false 1 (.v 21)⟩,
    ⟨some 23, none, none, .objs [], .bin .rem false (.v 22) (.c (.sc (.int .u16 300)))⟩,
    ⟨some 24, none, none, .objs [], .cv .i64 (.v 23)⟩,
    ⟨some 25, none, none, .objs [], .bin .add false (.v 17) (.v 24)⟩,
    ⟨some 4, none, none, .objs [], .mv (.v 25)⟩]))) <|
    .ops ([
    ⟨some 26, none, none, .objs [], .mv (.v 3)⟩,
    ⟨some 27, none, none, .objs [], .mv (.v 4)⟩,
    ⟨some 28, none, none, .objs [], .mv (.v 0)⟩,
    ⟨some 29, none, none, .objs [], .mv (.v 5)⟩,
    ⟨some 30, none, none, .objs [], .iaS 2 (.v 28) (.v 29)⟩,
    ⟨some 31, none, none, .objs [], .iaA 2 1 (.v 30) (.c (.sc (.int .i64 1)))⟩,
    ⟨some 32, none, none, .objs [], .ld false 1 (.v 31)⟩,
    ⟨some 33, none, none, .objs [], .cv .i64 (.v 32)⟩,
    ⟨some 34, none, none, .objs [], .bd [(.sc (.int .i64 0)), (.sc (.int .i64 0))] [(0, 1, (.v 27)), (1, 1, (.v 33))]⟩] ++ mkL [0, 4, 5, 26, 34] ([
    ⟨some 35, none, none, .objs [], .bs false 2 (.agg [(.sc (.int .i64 0)), (.sc (.int .i64 0))]) 1 [(0, (.v 34))]⟩,
    ⟨some 36, none, none, .objs [], .app 2 16 (.v 26) (.v 35)⟩,
    ⟨some 3, none, none, .objs [], .gmv 2 (.v 36)⟩])))) <|
  .ops ([
  ⟨some 14, none, none, .objs [], .mv (.v 5)⟩,
  ⟨some 15, none, none, .objs [], .bin .add false (.v 14) (.c (.sc (.int .i64 1)))⟩,
  ⟨some 5, none, none, .objs [], .mv (.v 15)⟩])
noncomputable def il23l0 : C := il23l0b
theorem il23l0_go {P : Program} {pol : Pol} {K : Oracle} {I : Inl} {n : Nat} {f : FuncId} {R : Xit → FEnv → Heap → Prop} {e : FEnv} {h : Heap} : wc P pol K I n f il23l0 R e h = wc P pol K I n f il23l0b R e h := (fun x => x) rfl

noncomputable def il23c : C :=
  .seq (.ops ([
  ⟨some 2, none, none, .objs [], .mv (.c (.sc (.slice none 0 0)))⟩])) <|
  .seq (.ops ([
  ⟨some 3, none, none, .objs [], .gmv 2 (.c (.sc (.slice none 0 0)))⟩])) <|
  .seq (.ops ([
  ⟨some 4, none, none, .objs [], .mv (.c (.sc (.int .i64 0)))⟩])) <|
  .seq (.seq (.ops ([
  ⟨some 5, none, none, .objs [], .mv (.c (.sc (.int .i64 0)))⟩])) <|
  .block 0 (.loop (some [0, 3, 4, 5]) il23l0)) <|
  .seq (.ops ([
  ⟨some 37, none, none, .objs [], .mv (.v 3)⟩,
  ⟨some 2, none, none, .objs [], .mv (.v 37)⟩])) <|
  .ret

theorem il23_eq : cFn Try.prog pol 23 = some ⟨38, il23c, [(2, none)]⟩ := by kernel_rfl

noncomputable def il24c : C :=
  .seq (.ops ([
  ⟨some 3, none, none, .objs [], .bx false (.v 1)⟩,
  ⟨some 4, none, none, .objs [], .mv (.c (.sc (.slice none 0 0)))⟩,
  ⟨some 5, none, none, .objs [], .mv (.c (.sc (.int .i64 0)))⟩,
  ⟨some 6, none, none, .objs [], .mv (.c (.sc (.int .i64 0)))⟩])) <|
  .seq (.seq (.ops ([
  ⟨some 12, none, none, .objs [], .mv (.v 0)⟩,
  ⟨some 13, none, none, .objs [], .call (.c (.fn (.func 25) [] [])) [(.v 12)]⟩,
  ⟨some 7, none, none, .objs [], .mv (.v 13)⟩])) <|
  .seq (.ops ([
  ⟨some 14, none, none, .objs [], .mv (.v 7)⟩,
  ⟨some 15, none, none, .objs [], .bin .neq false (.v 14) (.c (.sc (.int .i64 0)))⟩])) <|
  .cond (.v 15) (.seq (.ops ([
    ⟨some 16, none, none, .objs [], .mv (.v 7)⟩,
    ⟨some 4, none, none, .objs [], .mv (.c (.sc (.slice none 0 0)))⟩,
    ⟨some 5, none, none, .objs [], .mv (.c (.sc (.int .i64 0)))⟩,
    ⟨some 6, none, none, .objs [], .mv (.v 16)⟩])) <|
    .ret) (.nop)) <|
  .seq (.seq (.ops ([
  ⟨some 17, none, none, .objs [], .ld false 1 (.v 3)⟩] ++ mkL [0, 3, 17] ([
  ⟨some 18, none, none, .objs [], .call (.c (.fn (.func 43) [] [])) [(.v 17)]⟩,
  ⟨some 19, none, none, .objs [], .nt (.v 18)⟩]))) <|
  .cond (.v 19) (.seq (.ops ([
    ⟨some 4, none, none, .objs [], .mv (.c (.sc (.slice none 0 0)))⟩,
    ⟨some 5, none, none, .objs [], .mv (.c (.sc (.int .i64 0)))⟩,
    ⟨some 6, none, none, .objs [], .mv (.c (.sc (.int .i64 2)))⟩])) <|
    .ret) (.nop)) <|
  .seq (.ops ([
  ⟨some 20, none, none, .objs [], .mv (.v 0)⟩,
  ⟨some 21, none, none, .objs [], .fn 46 [] [(.v 3)]⟩,
  ⟨some 22, none, none, .objs [], .call (.c (.fn (.func 45) [] [])) [(.v 20), (.v 21)]⟩,
  ⟨some 8, none, none, .objs [], .mv (.v 22)⟩])) <|
  .seq (.opsD [] ([
  ⟨some 23, none, none, .objs [], .mv (.v 0)⟩,
  ⟨some 24, none, none, .objs [], .mv (.v 8)⟩,
  ⟨some 25, none, none, .objs [], .sl 2 (.v 23) (some (.v 24)) none none⟩,
  ⟨some 9, none, none, .objs [], .mv (.c (.sc (.int .i64 0)))⟩,
  ⟨some 10, none, none, .objs [], .mv (.v 25)⟩])) <| mkC [0, 3, 8, 9, 10] <|
  .seq (.seq (.opsD [] ([
  ⟨some 26, none, none, .objs [], .mv (.v 8)⟩,
  ⟨some 27, none, none, .objs [], .mv (.v 0)⟩,
  ⟨some 28, none, none, .objs [(.v 27)], .lenS (.v 27)⟩,
  ⟨some 29, none, none, .objs [], .bin .lss false (.v 26) (.v 28)⟩,
  ⟨some 30, none, none, .objs [], .mv (.v 29)⟩,
  ⟨some 31, some (30, true), none, .objs [], .mv (.v 0)⟩,
  ⟨some 32, some (30, true), none, .objs [], .mv (.v 8)⟩,
  ⟨some 33, some (30, true), none, .objs [], .iaS 2 (.v 31) (.v 32)⟩,
  ⟨some 34, some (30, true), none, .objs [], .fa 0 (.v 33)⟩,
  ⟨some 35, some (30, true), none, .objs [(.v 34)], .ld false 1 (.v 34)⟩,
  ⟨some 36, some (30, true), none, .objs [(.v 3)], .ld false 1 (.v 3)⟩,
  ⟨some 37, some (30, true), none, .objs [], .bin .eql false (.v 35) (.v 36)⟩,
  ⟨some 38, none, none, .objs [], .pk (.v 30) (.v 37) (.c (.sc (.bool false)))⟩])) <|
  .cond (.v 38) (.opsD [] ([
    ⟨some 39, none, none, .objs [], .mv (.v 0)⟩] ++ mkL [0, 3, 8, 39] ([
    ⟨some 40, none, none, .objs [], .mv (.v 8)⟩,
    ⟨some 41, none, none, .objs [], .iaS 2 (.v 39) (.v 40)⟩,
    ⟨some 42, none, none, .objs [], .fa 1 (.v 41)⟩,
    ⟨some 43, none, none, .objs [(.v 42)], .ld false 1 (.v 42)⟩,
    ⟨some 44, none, none, .objs [], .mv (.v 0)⟩,
    ⟨some 45, none, none, .objs [], .mv (.v 8)⟩,
    ⟨some 46, none, none, .objs [], .bin .add false (.v 45) (.c (.sc (.int .i64 1)))⟩,
    ⟨some 47, none, none, .objs [], .sl 2 (.v 44) (some (.v 46)) none none⟩,
    ⟨some 9, none, none, .objs [], .mv (.v 43)⟩,
    ⟨some 10, none, none, .objs [], .mv (.v 47)⟩]))) (.seq (.ops ([
    ⟨some 48, none, none, .objs [], .mv (.v 0)⟩] ++ mkL [0, 3, 8, 9, 10, 48] ([
    ⟨some 49, none, none, .objs [], .lenS (.v 48)⟩,
    ⟨some 50, none, none, .objs [], .bin .eql false (.v 49) (.c (.sc (.int .i64 12)))⟩]))) <|
    .cond (.v 50) (.seq (.ops ([
      ⟨some 4, none, none, .objs [], .mv (.c (.sc (.slice none 0 0)))⟩,
      ⟨some 5, none, none, .objs [], .mv (.c (.sc (.int .i64 0)))⟩,
      ⟨some 6, none, none, .objs [], .mv (.c (.sc (.int .i64 7)))⟩])) <|
      .ret) (.nop))) <|
  .seq (.opsD [(4, 7)] ([
  ⟨some 51, none, none, .objs [], .mv (.v 0)⟩,
  ⟨some 52, none, none, .objs [], .mv (.v 8)⟩,
  ⟨some 53, none, none, .objs [], .mv (.v 8)⟩,
  ⟨some 54, none, none, .objs [], .sl 2 (.v 51) none (some (.v 52)) (some (.v 53))⟩] ++ mkL [3, 9, 10, 54] ([
  ⟨some 55, none, none, .objs [(.v 3)], .ld false 1 (.v 3)⟩,
  ⟨some 56, none, none, .objs [], .mv (.v 9)⟩,
  ⟨some 57, none, none, .objs [], .bin .add false (.v 56) (.c (.sc (.int .i64 1)))⟩,
  ⟨some 58, none, none, .cal (.c (.fn (.func 42) [] [])) [(.v 57)], .call (.c (.fn (.func 42) [] [])) [(.v 57)]⟩,
  ⟨some 59, none, none, .objs [], .bd [(.sc (.int .i64 0)), (.sc (.int .i64 0))] [(0, 1, (.v 55)), (1, 1, (.v 58))]⟩,
  ⟨some 60, none, none, .objs [], .bs false 2 (.agg [(.sc (.int .i64 0)), (.sc (.int .i64 0))]) 1 [(0, (.v 59))]⟩,
  ⟨some 61, none, none, .objs [(.v 54), (.v 60)], .app 2 16 (.v 54) (.v 60)⟩,
  ⟨some 11, none, none, .objs [], .mv (.v 61)⟩]))) <|
  .seq (.ops ([
  ⟨some 62, none, none, .objs [], .mv (.v 11)⟩,
  ⟨some 63, none, none, .objs [], .mv (.v 10)⟩,
  ⟨some 64, none, none, .objs [], .app 2 16 (.v 62) (.v 63)⟩,
  ⟨some 65, none, none, .objs [], .mv (.v 9)⟩,
  ⟨some 4, none, none, .objs [], .mv (.v 64)⟩,
  ⟨some 5, none, none, .objs [], .mv (.v 65)⟩] ++ mkL [4, 5] ([
  ⟨some 6, none, none, .objs [], .mv (.c (.sc (.int .i64 0)))⟩]))) <|
  .ret

theorem il24_eq : cFn Try.prog pol 24 = some ⟨66, il24c, [(4, none), (5, none), (6, none)]⟩ := by kernel_rfl

noncomputable def il25l0b : C :=
  .seq (.ops ([
  ⟨some 12, none, none, .objs [], .bin .lss false (.v 11) (.v 10)⟩])) <|
  .seq (.cond (.v 12) (.nop) (.exit 0)) <|
  .seq (.block 1 (.seq (.ops ([
    ⟨some 13, none, none, .objs [], .iaS 2 (.v 9) (.v 11)⟩,
    ⟨some 14, none, none, .objs [], .ld true 2 (.v 13)⟩,
    ⟨some 5, none, none, .objs [], .nw 2 (.agg [(.sc (.int .i64 0)), (.sc (.int .i64 0))])⟩,
    ⟨none, none, none, .objs [], .st 2 (.v 5) (.v 14)⟩])) <|
    .seq (.seq (.ops ([
    ⟨some 15, none, none, .objs [], .fa 0 (.v 5)⟩,
    ⟨some 16, none, none, .objs [], .ld false 1 (.v 15)⟩,
    ⟨some 17, none, none, .objs [], .call (.c (.fn (.func 43) [] [])) [(.v 16)]⟩,
    ⟨some 18, none, none, .objs [], .nt (.v 17)⟩,
    ⟨some 19, none, none, .objs [], .mv (.v 18)⟩,
    ⟨some 20, some (19, false), none, .objs [], .fa 0 (.v 5)⟩,
    ⟨some 21, some (19, false), none, .objs [], .ld false 1 (.v 20)⟩,
    ⟨some 22, some (19, false), none, .objs [], .mv (.v 3)⟩,
    ⟨some 23, some (19, false), none, .objs [], .bin .leq false (.v 21) (.v 22)⟩] ++ mkL [5, 9, 10, 11, 19, 23] ([
    ⟨some 24, none, none, .objs [], .pk (.v 19) (.c (.sc (.bool true))) (.v 23)⟩,
    ⟨some 25, none, none, .objs [], .mv (.v 24)⟩,
    ⟨some 26, some (25, false), none, .objs [], .fa 1 (.v 5)⟩,
    ⟨some 27, some (25, false), none, .objs [], .ld false 1 (.v 26)⟩,
    ⟨some 28, some (25, false), none, .objs [], .call (.c (.fn (.func 41) [] [])) [(.v 27)]⟩,
    ⟨some 29, some (25, false), none, .objs [], .nt (.v 28)⟩,
    ⟨some 30, none, none, .objs [], .pk (.v 25) (.c (.sc (.bool true))) (.v 29)⟩]))) <|
    .cond (.v 30) (.seq (.ops ([
      ⟨some 2, none, none, .objs [], .mv (.c (.sc (.int .i64 490)))⟩])) <|
      .ret) (.nop)) <|
    .ops ([
    ⟨some 31, none, none, .objs [], .fa 0 (.v 5)⟩,
    ⟨some 32, none, none, .objs [], .ld false 1 (.v 31)⟩,
    ⟨some 3, none, none, .objs [], .mv (.v 32)⟩]))) <|
  .ops ([
  ⟨some 33, none, none, .objs [], .bin .add false (.v 11) (.c (.sc (.int .i64 1)))⟩,
  ⟨some 11, none, none, .objs [], .mv (.v 33)⟩])
noncomputable def il25l0 : C := il25l0b
theorem il25l0_go {P : Program} {pol : Pol} {K : Oracle} {I : Inl} {n : Nat} {f : FuncId} {R : Xit → FEnv → Heap → Prop} {e : FEnv} {h : Heap} : wc P pol K I n f il25l0 R e h = wc P pol K I n f il25l0b R e h := (fun x => x) rfl

noncomputable def il25c : C :=
  .seq (.ops ([
  ⟨some 2, none, none, .objs [], .mv (.c (.sc (.int .i64 0)))⟩])) <|
  .seq (.seq (.ops ([
  ⟨some 6, none, none, .objs [], .mv (.v 0)⟩,
  ⟨some 7, none, none, .objs [], .lenS (.v 6)⟩,
  ⟨some 8, none, none, .objs [], .bin .gtr false (.v 7) (.c (.sc (.int .i64 12)))⟩])) <|
  .cond (.v 8) (.seq (.ops ([
    ⟨some 2, none, none, .objs [], .mv (.c (.sc (.int .i64 490)))⟩])) <|
    .ret) (.nop)) <|
  .seq (.ops ([
  ⟨some 3, none, none, .objs [], .mv (.c (.sc (.int .i64 0)))⟩])) <|
  .seq (.seq (.ops ([
  ⟨some 9, none, none, .objs [], .mv (.v 0)⟩,
  ⟨some 10, none, none, .objs [], .lenS (.v 9)⟩,
  ⟨some 11, none, none, .objs [], .mv (.c (.sc (.int .i64 0)))⟩])) <|
  .block 0 (.loop (some [3, 9, 10, 11]) il25l0)) <|
  .seq (.ops ([
  ⟨some 2, none, none, .objs [], .mv (.c (.sc (.int .i64 0)))⟩])) <|
  .ret

theorem il25_eq : cFn Try.prog pol 25 = some ⟨34, il25c, [(2, none)]⟩ := by kernel_rfl

noncomputable def il26c : C :=
  .seq (.ops ([
  ⟨some 2, none, none, .objs [], .mv (.c (.sc (.slice none 0 0)))⟩])) <|
  .seq (.seq (.ops ([
  ⟨some 3, none, none, .objs [], .mv (.v 0)⟩,
  ⟨some 4, none, none, .objs [], .raw (opOf Try.prog 26 1 1)⟩])) <|
  .cond (.v 4) (.seq (.ops ([
    ⟨some 2, none, none, .objs [], .mv (.c (.sc (.slice none 0 0)))⟩])) <|
    .ret) (.nop)) <|
  .seq (.ops ([
  ⟨some 5, none, none, .objs [], .bs false 2 (.agg [(.sc (.int .i64 0)), (.sc (.int .i64 0))]) 0 []⟩,
  ⟨some 6, none, none, .objs [], .mv (.v 0)⟩,
  ⟨some 7, none, none, .objs [], .app 2 16 (.v 5) (.v 6)⟩,
  ⟨some 2, none, none, .objs [], .mv (.v 7)⟩])) <|
  .ret

theorem il26_eq : cFn Try.prog pol 26 = some ⟨8, il26c, [(2, none)]⟩ := by kernel_rfl
theorem raw26_1_1 {e : FEnv} {h : Heap} : iStep Try.prog pol 26 e h (.raw (opOf Try.prog 26 1 1)) = vOf h (binE Try.prog false 46 (.tmp 3) (.const (.slice none 0 0)) (Src.get e (.v 3)) (Src.get e (.c (.sc (.slice none 0 0))))) := raw_eql (x := (.tmp 3)) (y := (.const (.slice none 0 0))) (s := 46) (by kernel_rfl)

noncomputable def il27l0b : C :=
  .seq (.seq (.ops ([
  ⟨some 4, none, none, .objs [], .mv (.v 3)⟩,
  ⟨some 5, none, none, .objs [], .mv (.v 0)⟩,
  ⟨some 6, none, none, .objs [], .lenS (.v 5)⟩,
  ⟨some 7, none, none, .objs [], .bin .lss false (.v 4) (.v 6)⟩])) <|
  .cond (.v 7) (.nop) (.exit 0)) <|
  .seq (.block 1 (.seq (.opsD [] ([
    ⟨some 10, none, none, .objs [], .mv (.v 0)⟩,
    ⟨some 11, none, none, .objs [], .mv (.v 3)⟩,
    ⟨some 12, none, none, .objs [], .iaS 2 (.v 10) (.v 11)⟩,
    ⟨some 13, none, none, .objs [], .fa 0 (.v 12)⟩,
    ⟨some 14, none, none, .objs [(.v 13)], .ld false 1 (.v 13)⟩,
    ⟨some 15, none, none, .objs [], .bin .lss false (.v 14) (.c (.sc (.int .i64 1)))⟩,
    ⟨some 16, none, none, .objs [], .mv (.v 15)⟩,
    ⟨some 17, some (16, false), none, .objs [], .mv (.v 0)⟩,
    ⟨some 18, some (16, false), none, .objs [], .mv (.v 3)⟩,
    ⟨some 19, some (16, false), none, .objs [], .iaS 2 (.v 17) (.v 18)⟩] ++ mkL [0, 3, 16, 19] ([
    ⟨some 20, some (16, false), none, .objs [], .fa 0 (.v 19)⟩,
    ⟨some 21, some (16, false), none, .objs [(.v 20)], .ld false 1 (.v 20)⟩,
    ⟨some 22, some (16, false), none, .objs [], .bin .gtr false (.v 21) (.c (.sc (.int .i64 4095)))⟩,
    ⟨some 23, none, none, .objs [], .pk (.v 16) (.c (.sc (.bool true))) (.v 22)⟩,
    ⟨some 24, none, none, .objs [], .mv (.v 23)⟩,
    ⟨some 25, some (24, false), none, .objs [], .mv (.v 0)⟩,
    ⟨some 26, some (24, false), none, .objs [], .mv (.v 3)⟩,
    ⟨some 27, some (24, false), none, .objs [], .iaS 2 (.v 25) (.v 26)⟩,
    ⟨some 28, some (24, false), none, .objs [], .fa 1 (.v 27)⟩,
    ⟨some 29, some (24, false), none, .objs [(.v 28)], .ld false 1 (.v 28)⟩,
    ⟨some 30, some (24, false), none, .cal (.c (.fn (.func 20) [] [])) [(.v 29)], .call (.c (.fn (.func 20) [] [])) [(.v 29)]⟩,
    ⟨some 31, some (24, false), none, .objs [], .nt (.v 30)⟩,
    ⟨some 32, none, none, .objs [], .pk (.v 24) (.c (.sc (.bool true))) (.v 31)⟩,
    ⟨some 33, none, none, .objs [], .mv (.v 32)⟩] ++ mkL [0, 3, 33] ([
    ⟨some 34, some (33, false), none, .objs [], .mv (.v 3)⟩,
    ⟨some 35, some (33, false), none, .objs [], .bin .gtr false (.v 34) (.c (.sc (.int .i64 0)))⟩,
    ⟨some 36, some (33, false), none, .objs [], .mv (.v 35)⟩,
    ⟨some 37, some (36, true), none, .objs [], .mv (.v 0)⟩,
    ⟨some 38, some (36, true), none, .objs [], .mv (.v 3)⟩,
    ⟨some 39, some (36, true), none, .objs [], .bin .sub false (.v 38) (.c (.sc (.int .i64 1)))⟩,
    ⟨some 40, some (36, true), none, .objs [], .iaS 2 (.v 37) (.v 39)⟩,
    ⟨some 41, some (36, true), none, .objs [], .fa 0 (.v 40)⟩,
    ⟨some 42, some (36, true), none, .objs [(.v 41)], .ld false 1 (.v 41)⟩,
    ⟨some 43, some (36, true), none, .objs [], .mv (.v 0)⟩,
    ⟨some 44, some (36, true), none, .objs [], .mv (.v 3)⟩,
    ⟨some 45, some (36, true), none, .objs [], .iaS 2 (.v 43) (.v 44)⟩,
    ⟨some 46, some (36, true), none, .objs [], .fa 0 (.v 45)⟩,
    ⟨some 47, some (36, true), none, .objs [(.v 46)], .ld false 1 (.v 46)⟩] ++ mkL [0, 3, 33, 36, 42, 47] ([
    ⟨some 48, some (36, true), none, .objs [], .bin .geq false (.v 42) (.v 47)⟩,
    ⟨some 49, some (33, false), none, .objs [], .pk (.v 36) (.v 48) (.c (.sc (.bool false)))⟩,
    ⟨some 50, none, none, .objs [], .pk (.v 33) (.c (.sc (.bool true))) (.v 49)⟩]))))) <|
    .cond (.v 50) (.seq (.ops ([
      ⟨some 2, none, none, .objs [], .mv (.c (.sc (.bool false)))⟩])) <|
      .ret) (.nop))) <|
  .ops ([
  ⟨some 8, none, none, .objs [], .mv (.v 3)⟩,
  ⟨some 9, none, none, .objs [], .bin .add false (.v 8) (.c (.sc (.int .i64 1)))⟩,
  ⟨some 3, none, none, .objs [], .mv (.v 9)⟩])
noncomputable def il27l0 : C := il27l0b
theorem il27l0_go {P : Program} {pol : Pol} {K : Oracle} {I : Inl} {n : Nat} {f : FuncId} {R : Xit → FEnv → Heap → Prop} {e : FEnv} {h : Heap} : wc P pol K I n f il27l0 R e h = wc P pol K I n f il27l0b R e h := (fun x => x) rfl

noncomputable def il27c : C :=
  .seq (.ops ([
  ⟨some 2, none, none, .objs [], .mv (.c (.sc (.bool false)))⟩])) <|
  .seq (.seq (.ops ([
  ⟨some 3, none, none, .objs [], .mv (.c (.sc (.int .i64 0)))⟩])) <|
  .block 0 (.loop (some [0, 3]) il27l0)) <|
  .seq (.ops ([
  ⟨some 51, none, none, .objs [], .mv (.v 0)⟩,
  ⟨some 52, none, none, .objs [], .lenS (.v 51)⟩,
  ⟨some 53, none, none, .objs [], .bin .leq false (.v 52) (.c (.sc (.int .i64 12)))⟩,
  ⟨some 2, none, none, .objs [], .mv (.v 53)⟩])) <|
  .ret

theorem il27_eq : cFn Try.prog pol 27 = some ⟨54, il27c, [(2, none)]⟩ := by kernel_rfl

noncomputable def il28l0b : C :=
  .seq (.seq (.ops ([
  ⟨some 20, none, none, .objs [], .mv (.v 10)⟩,
  ⟨some 21, none, none, .objs [], .mv (.v 0)⟩,
  ⟨some 22, none, none, .objs [], .lenS (.v 21)⟩,
  ⟨some 23, none, none, .objs [], .bin .lss false (.v 20) (.v 22)⟩])) <|
  .cond (.v 23) (.nop) (.exit 0)) <|
  .seq (.block 1 (.seq (.seq (.ops ([
    ⟨some 26, none, none, .objs [], .mv (.v 0)⟩,
    ⟨some 27, none, none, .objs [], .mv (.v 10)⟩,
    ⟨some 28, none, none, .objs [], .iaS 2 (.v 26) (.v 27)⟩,
    ⟨some 29, none, none, .objs [], .fa 0 (.v 28)⟩,
    ⟨some 30, none, none, .objs [], .ld false 1 (.v 29)⟩,
    ⟨some 31, none, none, .objs [], .mv (.v 1)⟩,
    ⟨some 32, none, none, .objs [], .bin .eql false (.v 30) (.v 31)⟩])) <|
    .cond (.v 32) (.seq (.ops ([
      ⟨some 33, none, none, .objs [], .mv (.v 0)⟩,
      ⟨some 34, none, none, .objs [], .mv (.v 10)⟩,
      ⟨some 35, none, none, .objs [], .iaS 2 (.v 33) (.v 34)⟩] ++ mkL [0, 1, 7, 10, 35] ([
      ⟨some 36, none, none, .objs [], .fa 1 (.v 35)⟩,
      ⟨some 37, none, none, .objs [], .ld false 1 (.v 36)⟩,
      ⟨some 8, none, none, .objs [], .mv (.v 37)⟩]))) <|
      .seq (.ops ([
      ⟨some 38, none, none, .objs [], .mv (.v 7)⟩,
      ⟨some 39, none, none, .objs [], .mv (.v 1)⟩,
      ⟨some 40, none, none, .objs [], .mv (.v 8)⟩,
      ⟨some 41, none, none, .objs [], .call (.c (.fn (.func 19) [] [])) [(.v 40), (.c (.sc (.int .i64 1)))]⟩,
      ⟨some 42, none, none, .objs [], .bd [(.sc (.int .i64 0)), (.sc (.int .i64 0))] [(0, 1, (.v 39)), (1, 1, (.v 41))]⟩,
      ⟨some 43, none, none, .objs [], .bs false 2 (.agg [(.sc (.int .i64 0)), (.sc (.int .i64 0))]) 1 [(0, (.v 42))]⟩,
      ⟨some 44, none, none, .objs [], .app 2 16 (.v 38) (.v 43)⟩,
      ⟨some 7, none, none, .objs [], .gmv 2 (.v 44)⟩])) <|
      .seq (.ops ([
      ⟨some 9, none, none, .objs [], .mv (.c (.sc (.bool true)))⟩])) <|
      .exit 1) (.nop)) <|
    .seq (.seq (.ops ([
    ⟨some 45, none, none, .objs [], .mv (.v 9)⟩,
    ⟨some 46, none, none, .objs [], .nt (.v 45)⟩] ++ mkL [0, 1, 7, 8, 9, 10, 46] ([
    ⟨some 47, none, none, .objs [], .mv (.v 46)⟩,
    ⟨some 48, some (47, true), none, .objs [], .mv (.v 0)⟩,
    ⟨some 49, some (47, true), none, .objs [], .mv (.v 10)⟩,
    ⟨some 50, some (47, true), none, .objs [], .iaS 2 (.v 48) (.v 49)⟩,
    ⟨some 51, some (47, true), none, .objs [], .fa 0 (.v 50)⟩,
    ⟨some 52, some (47, true), none, .objs [], .ld false 1 (.v 51)⟩,
    ⟨some 53, some (47, true), none, .objs [], .mv (.v 1)⟩,
    ⟨some 54, some (47, true), none, .objs [], .bin .gtr false (.v 52) (.v 53)⟩,
    ⟨some 55, none, none, .objs [], .pk (.v 47) (.v 54) (.c (.sc (.bool false)))⟩]))) <|
    .cond (.v 55) (.seq (.ops ([
      ⟨some 56, none, none, .objs [], .mv (.v 7)⟩,
      ⟨some 57, none, none, .objs [], .mv (.v 1)⟩,
      ⟨some 58, none, none, .objs [], .bd [(.sc (.int .i64 0)), (.sc (.int .i64 0))] [(0, 1, (.v 57)), (1, 1, (.c (.sc (.int .i64 1))))]⟩,
      ⟨some 59, none, none, .objs [], .bs false 2 (.agg [(.sc (.int .i64 0)), (.sc (.int .i64 0))]) 1 [(0, (.v 58))]⟩,
      ⟨some 60, none, none, .objs [], .app 2 16 (.v 56) (.v 59)⟩] ++ mkL [0, 1, 8, 10, 60] ([
      ⟨some 7, none, none, .objs [], .gmv 2 (.v 60)⟩]))) <|
      .ops ([
      ⟨some 9, none, none, .objs [], .mv (.c (.sc (.bool true)))⟩])) (.nop)) <|
    .ops ([
    ⟨some 61, none, none, .objs [], .mv (.v 7)⟩,
    ⟨some 62, none, none, .objs [], .mv (.v 0)⟩,
    ⟨some 63, none, none, .objs [], .mv (.v 10)⟩,
    ⟨some 64, none, none, .objs [], .iaS 2 (.v 62) (.v 63)⟩,
    ⟨some 65, none, none, .objs [], .ld true 2 (.v 64)⟩] ++ mkL [0, 1, 8, 9, 10, 61, 65] ([
    ⟨some 66, none, none, .objs [], .bs false 2 (.agg [(.sc (.int .i64 0)), (.sc (.int .i64 0))]) 1 [(0, (.v 65))]⟩,
    ⟨some 67, none, none, .objs [], .app 2 16 (.v 61) (.v 66)⟩,
    ⟨some 7, none, none, .objs [], .gmv 2 (.v 67)⟩])))) <|
  .ops ([
  ⟨some 24, none, none, .objs [], .mv (.v 10)⟩,
  ⟨some 25, none, none, .objs [], .bin .add false (.v 24) (.c (.sc (.int .i64 1)))⟩,
  ⟨some 10, none, none, .objs [], .mv (.v 25)⟩])
noncomputable def il28l0 : C := il28l0b
theorem il28l0_go {P : Program} {pol : Pol} {K : Oracle} {I : Inl} {n : Nat} {f : FuncId} {R : Xit → FEnv → Heap → Prop} {e : FEnv} {h : Heap} : wc P pol K I n f il28l0 R e h = wc P pol K I n f il28l0b R e h := (fun x => x) rfl

noncomputable def il28c : C :=
  .seq (.ops ([
  ⟨some 4, none, none, .objs [], .mv (.c (.sc (.slice none 0 0)))⟩,
  ⟨some 5, none, none, .objs [], .mv (.c (.sc (.int .i64 0)))⟩,
  ⟨some 6, none, none, .objs [], .mv (.c (.sc (.int .i64 0)))⟩])) <|
  .seq (.seq (.ops ([
  ⟨some 11, none, none, .objs [], .mv (.v 0)⟩,
  ⟨some 12, none, none, .objs [], .call (.c (.fn (.func 27) [] [])) [(.v 11)]⟩,
  ⟨some 13, none, none, .objs [], .nt (.v 12)⟩])) <|
  .cond (.v 13) (.seq (.ops ([
    ⟨some 4, none, none, .objs [], .mv (.c (.sc (.slice none 0 0)))⟩,
    ⟨some 5, none, none, .objs [], .mv (.c (.sc (.int .i64 0)))⟩,
    ⟨some 6, none, none, .objs [], .mv (.c (.sc (.int .i64 490)))⟩])) <|
    .ret) (.nop)) <|
  .seq (.seq (.ops ([
  ⟨some 14, none, none, .objs [], .mv (.v 1)⟩,
  ⟨some 15, none, none, .objs [], .bin .lss false (.v 14) (.c (.sc (.int .i64 1)))⟩,
  ⟨some 16, none, none, .objs [], .mv (.v 15)⟩,
  ⟨some 17, some (16, false), none, .objs [], .mv (.v 1)⟩,
  ⟨some 18, some (16, false), none, .objs [], .bin .gtr false (.v 17) (.c (.sc (.int .i64 4095)))⟩] ++ mkL [0, 1, 16, 18] ([
  ⟨some 19, none, none, .objs [], .pk (.v 16) (.c (.sc (.bool true))) (.v 18)⟩]))) <|
  .cond (.v 19) (.seq (.ops ([
    ⟨some 4, none, none, .objs [], .mv (.c (.sc (.slice none 0 0)))⟩,
    ⟨some 5, none, none, .objs [], .mv (.c (.sc (.int .i64 0)))⟩,
    ⟨some 6, none, none, .objs [], .mv (.c (.sc (.int .i64 2)))⟩])) <|
    .ret) (.nop)) <|
  .seq (.ops ([
  ⟨some 7, none, none, .objs [], .gmv 2 (.c (.sc (.slice none 0 0)))⟩])) <|
  .seq (.ops ([
  ⟨some 8, none, none, .objs [], .mv (.c (.sc (.int .i64 0)))⟩,
  ⟨some 9, none, none, .objs [], .mv (.c (.sc (.bool false)))⟩])) <|
  .seq (.seq (.ops ([
  ⟨some 10, none, none, .objs [], .mv (.c (.sc (.int .i64 0)))⟩])) <|
  .block 0 (.loop (some [0, 1, 7, 8, 9, 10]) il28l0)) <|
  .seq (.seq (.ops ([
  ⟨some 68, none, none, .objs [], .mv (.v 9)⟩,
  ⟨some 69, none, none, .objs [], .nt (.v 68)⟩])) <|
  .cond (.v 69) (.ops ([
    ⟨some 70, none, none, .objs [], .mv (.v 7)⟩,
    ⟨some 71, none, none, .objs [], .mv (.v 1)⟩,
    ⟨some 72, none, none, .objs [], .bd [(.sc (.int .i64 0)), (.sc (.int .i64 0))] [(0, 1, (.v 71)), (1, 1, (.c (.sc (.int .i64 1))))]⟩,
    ⟨some 73, none, none, .objs [], .bs false 2 (.agg [(.sc (.int .i64 0)), (.sc (.int .i64 0))]) 1 [(0, (.v 72))]⟩,
    ⟨some 74, none, none, .objs [], .app 2 16 (.v 70) (.v 73)⟩,
    ⟨some 7, none, none, .objs [], .gmv 2 (.v 74)⟩])) (.nop)) <|
  .seq (.seq (.ops ([
  ⟨some 75, none, none, .objs [], .mv (.v 7)⟩,
  ⟨some 76, none, none, .objs [], .lenS (.v 75)⟩,
  ⟨some 77, none, none, .objs [], .bin .gtr false (.v 76) (.c (.sc (.int .i64 12)))⟩])) <|
  .cond (.v 77) (.seq (.ops ([
    ⟨some 4, none, none, .objs [], .mv (.c (.sc (.slice none 0 0)))⟩,
    ⟨some 5, none, none, .objs [], .mv (.c (.sc (.int .i64 0)))⟩,
    ⟨some 6, none, none, .objs [], .mv (.c (.sc (.int .i64 7)))⟩])) <|
    .ret) (.nop)) <| mkC [7, 8] <|
  .seq (.ops ([
  ⟨some 78, none, none, .objs [], .mv (.v 7)⟩,
  ⟨some 79, none, none, .objs [], .mv (.v 8)⟩,
  ⟨some 4, none, none, .objs [], .mv (.v 78)⟩,
  ⟨some 5, none, none, .objs [], .mv (.v 79)⟩,
  ⟨some 6, none, none, .objs [], .mv (.c (.sc (.int .i64 0)))⟩])) <|
  .ret

theorem il28_eq : cFn Try.prog pol 28 = some ⟨80, il28c, [(4, none), (5, none), (6, none)]⟩ := by kernel_rfl

noncomputable def il29l0b : C :=
  .seq (.seq (.ops ([
  ⟨some 11, none, none, .objs [], .mv (.v 5)⟩,
  ⟨some 12, none, none, .objs [], .mv (.v 0)⟩,
  ⟨some 13, none, none, .objs [], .lenS (.v 12)⟩,
  ⟨some 14, none, none, .objs [], .bin .lss false (.v 11) (.v 13)⟩])) <|
  .cond (.v 14) (.nop) (.exit 0)) <|
  .seq (.block 1 (.seq (.opsD [] ([
    ⟨some 17, none, none, .objs [], .mv (.v 0)⟩,
    ⟨some 18, none, none, .objs [], .mv (.v 5)⟩,
    ⟨some 19, none, none, .objs [], .iaS 2 (.v 17) (.v 18)⟩,
    ⟨some 20, none, none, .objs [(.v 19)], .ld true 2 (.v 19)⟩,
    ⟨some 21, none, none, .objs [], .mv (.v 1)⟩,
    ⟨some 22, none, none, .objs [], .mv (.v 5)⟩,
    ⟨some 23, none, none, .objs [], .iaS 2 (.v 21) (.v 22)⟩,
    ⟨some 24, none, none, .objs [(.v 23)], .ld true 2 (.v 23)⟩,
    ⟨some 25, none, none, .objs [], .raw (opOf Try.prog 29 6 8)⟩])) <|
    .cond (.v 25) (.seq (.ops ([
      ⟨some 4, none, none, .objs [], .mv (.c (.sc (.bool false)))⟩])) <|
      .ret) (.nop))) <| mkC [0, 1, 5] <|
  .ops ([
  ⟨some 15, none, none, .objs [], .mv (.v 5)⟩,
  ⟨some 16, none, none, .objs [], .bin .add false (.v 15) (.c (.sc (.int .i64 1)))⟩,
  ⟨some 5, none, none, .objs [], .mv (.v 16)⟩])
noncomputable def il29l0 : C := il29l0b
theorem il29l0_go {P : Program} {pol : Pol} {K : Oracle} {I : Inl} {n : Nat} {f : FuncId} {R : Xit → FEnv → Heap → Prop} {e : FEnv} {h : Heap} : wc P pol K I n f il29l0 R e h = wc P pol K I n f il29l0b R e h := (fun x => x) rfl

noncomputable def il29c : C :=
  .seq (.ops ([
  ⟨some 4, none, none, .objs [], .mv (.c (.sc (.bool false)))⟩])) <|
  .seq (.seq (.ops ([
  ⟨some 6, none, none, .objs [], .mv (.v 0)⟩,
  ⟨some 7, none, none, .objs [], .lenS (.v 6)⟩,
  ⟨some 8, none, none, .objs [], .mv (.v 1)⟩,
  ⟨some 9, none, none, .objs [], .lenS (.v 8)⟩,
  ⟨some 10, none, none, .objs [], .bin .neq false (.v 7) (.v 9)⟩])) <|
  .cond (.v 10) (.seq (.ops ([
    ⟨some 4, none, none, .objs [], .mv (.c (.sc (.bool false)))⟩])) <|
    .ret) (.nop)) <|
  .seq (.seq (.ops ([
  ⟨some 5, none, none, .objs [], .mv (.c (.sc (.int .i64 0)))⟩])) <|
  .block 0 (.loop (some [0, 1, 5]) il29l0)) <|
  .seq (.ops ([
  ⟨some 4, none, none, .objs [], .mv (.c (.sc (.bool true)))⟩])) <|
  .ret

theorem il29_eq : cFn Try.prog pol 29 = some ⟨26, il29c, [(4, none)]⟩ := by kernel_rfl
theorem raw29_6_8 {e : FEnv} {h : Heap} : iStep Try.prog pol 29 e h (.raw (opOf Try.prog 29 6 8)) = vOf h (binE Try.prog true 50 (.tmp 20) (.tmp 24) (Src.get e (.v 20)) (Src.get e (.v 24))) := raw_neq (x := (.tmp 20)) (y := (.tmp 24)) (s := 50) (by kernel_rfl)

noncomputable def il41c : C :=
  .seq (.ops ([
  ⟨some 2, none, none, .objs [], .mv (.c (.sc (.bool false)))⟩])) <|
  .seq (.ops ([
  ⟨some 3, none, none, .objs [], .mv (.v 0)⟩,
  ⟨some 4, none, none, .objs [], .bin .geq false (.v 3) (.c (.sc (.int .i64 0)))⟩,
  ⟨some 5, none, none, .objs [], .mv (.v 4)⟩,
  ⟨some 6, some (5, true), none, .objs [], .mv (.v 0)⟩,
  ⟨some 7, some (5, true), none, .objs [], .bin .lss false (.v 6) (.c (.sc (.int .i64 65536)))⟩,
  ⟨some 8, none, none, .objs [], .pk (.v 5) (.v 7) (.c (.sc (.bool false)))⟩,
  ⟨some 2, none, none, .objs [], .mv (.v 8)⟩])) <|
  .ret

theorem il41_eq : cFn Try.prog pol 41 = some ⟨9, il41c, [(2, none)]⟩ := by kernel_rfl

noncomputable def il42c : C :=
  .seq (.ops ([
  ⟨some 2, none, none, .objs [], .mv (.c (.sc (.int .i64 0)))⟩])) <|
  .seq (.ops ([
  ⟨some 3, none, none, .objs [], .mv (.v 0)⟩,
  ⟨some 4, none, none, .objs [], .bin .rem false (.v 3) (.c (.sc (.int .i64 65536)))⟩,
  ⟨some 0, none, none, .objs [], .mv (.v 4)⟩])) <|
  .seq (.seq (.ops ([
  ⟨some 5, none, none, .objs [], .mv (.v 0)⟩,
  ⟨some 6, none, none, .objs [], .bin .lss false (.v 5) (.c (.sc (.int .i64 0)))⟩])) <|
  .cond (.v 6) (.ops ([
    ⟨some 7, none, none, .objs [], .mv (.v 0)⟩,
    ⟨some 8, none, none, .objs [], .bin .add false (.v 7) (.c (.sc (.int .i64 65536)))⟩,
    ⟨some 0, none, none, .objs [], .mv (.v 8)⟩])) (.nop)) <|
  .seq (.ops ([
  ⟨some 9, none, none, .objs [], .mv (.v 0)⟩,
  ⟨some 2, none, none, .objs [], .mv (.v 9)⟩])) <|
  .ret

theorem il42_eq : cFn Try.prog pol 42 = some ⟨10, il42c, [(2, none)]⟩ := by kernel_rfl

noncomputable def il43c : C :=
  .seq (.ops ([
  ⟨some 2, none, none, .objs [], .mv (.c (.sc (.bool false)))⟩])) <|
  .seq (.ops ([
  ⟨some 3, none, none, .objs [], .mv (.v 0)⟩,
  ⟨some 4, none, none, .objs [], .bin .geq false (.v 3) (.c (.sc (.int .i64 1)))⟩,
  ⟨some 5, none, none, .objs [], .mv (.v 4)⟩,
  ⟨some 6, some (5, true), none, .objs [], .mv (.v 0)⟩,
  ⟨some 7, some (5, true), none, .objs [], .bin .leq false (.v 6) (.c (.sc (.int .i64 4095)))⟩,
  ⟨some 8, none, none, .objs [], .pk (.v 5) (.v 7) (.c (.sc (.bool false)))⟩,
  ⟨some 2, none, none, .objs [], .mv (.v 8)⟩])) <|
  .ret

theorem il43_eq : cFn Try.prog pol 43 = some ⟨9, il43c, [(2, none)]⟩ := by kernel_rfl

noncomputable def il45l0b : C :=
  .seq (.ops ([
  ⟨some 10, none, none, .objs [], .bin .lss false (.v 9) (.v 8)⟩])) <|
  .seq (.cond (.v 10) (.nop) (.exit 0)) <|
  .seq (.block 1 (.seq (.ops ([
    ⟨some 11, none, none, .objs [], .mv (.v 9)⟩,
    ⟨some 12, none, none, .objs [], .iaS 2 (.v 7) (.v 9)⟩,
    ⟨some 13, none, none, .objs [], .ld true 2 (.v 12)⟩,
    ⟨some 6, none, none, .objs [], .nw 2 (.agg [(.sc (.int .i64 0)), (.sc (.int .i64 0))])⟩,
    ⟨some 5, none, none, .objs [], .mv (.v 11)⟩,
    ⟨none, none, none, .objs [], .st 2 (.v 6) (.v 13)⟩])) <|
    .seq (.ops ([
    ⟨some 14, none, none, .objs [], .mv (.v 1)⟩,
    ⟨some 15, none, none, .objs [], .ld true 2 (.v 6)⟩,
    ⟨some 16, none, none, .objs [], .call (.v 14) [(.v 15)]⟩])) <|
    .cond (.v 16) (.seq (.ops ([
      ⟨some 17, none, none, .objs [], .mv (.v 5)⟩,
      ⟨some 4, none, none, .objs [], .mv (.v 17)⟩])) <|
      .ret) (.nop))) <|
  .ops ([
  ⟨some 18, none, none, .objs [], .bin .add false (.v 9) (.c (.sc (.int .i64 1)))⟩,
  ⟨some 9, none, none, .objs [], .mv (.v 18)⟩])
noncomputable def il45l0 : C := il45l0b
theorem il45l0_go {P : Program} {pol : Pol} {K : Oracle} {I : Inl} {n : Nat} {f : FuncId} {R : Xit → FEnv → Heap → Prop} {e : FEnv} {h : Heap} : wc P pol K I n f il45l0 R e h = wc P pol K I n f il45l0b R e h := (fun x => x) rfl

noncomputable def il45c : C :=
  .seq (.ops ([
  ⟨some 4, none, none, .objs [], .mv (.c (.sc (.int .i64 0)))⟩])) <|
  .seq (.seq (.ops ([
  ⟨some 7, none, none, .objs [], .mv (.v 0)⟩,
  ⟨some 8, none, none, .objs [], .lenS (.v 7)⟩,
  ⟨some 9, none, none, .objs [], .mv (.c (.sc (.int .i64 0)))⟩])) <|
  .block 0 (.loop (some [0, 1, 7, 8, 9]) il45l0)) <|
  .seq (.ops ([
  ⟨some 19, none, none, .objs [], .mv (.v 0)⟩,
  ⟨some 20, none, none, .objs [], .lenS (.v 19)⟩,
  ⟨some 4, none, none, .objs [], .mv (.v 20)⟩])) <|
  .ret

theorem il45_eq : cFn Try.prog pol 45 = some ⟨21, il45c, [(4, none)]⟩ := by kernel_rfl

noncomputable def il46c : C :=
  .seq (.ops ([
  ⟨some 2, none, none, .objs [], .bx false (.v 0)⟩,
  ⟨some 3, none, none, .objs [], .mv (.c (.sc (.bool false)))⟩])) <|
  .seq (.ops ([
  ⟨some 4, none, none, .objs [], .fa 0 (.v 2)⟩,
  ⟨some 5, none, none, .objs [], .ld false 1 (.v 4)⟩,
  ⟨some 6, none, none, .objs [], .ld false 1 (.v 1)⟩,
  ⟨some 7, none, none, .objs [], .bin .geq false (.v 5) (.v 6)⟩,
  ⟨some 3, none, none, .objs [], .mv (.v 7)⟩])) <|
  .ret

theorem il46_eq : cFn Try.prog pol 46 = some ⟨8, il46c, [(3, none)]⟩ := by kernel_rfl

attribute [go_sem] eqT31
attribute [go_sem] eqT46
attribute [go_sem] eqT50
attribute [go_sem] raw26_1_1
attribute [go_sem] raw29_6_8
end Go.Proofs.Ytkamfflnfnjbeaa
