/- Functions of the program, worked out ahead (printed by a program; each is checked against the program by the kernel). -/
import Derived.Test.YtcpaijajddaidaaILBase
set_option linter.unusedSimpArgs false
namespace Go.Proofs.Ytcpaijajddaidaa
open Go Go.Abs
set_option maxRecDepth 100000
set_option linter.unusedVariables false

theorem eqT23 {a0 b0 : Int} {a1 b1 : Int} : aEq Try.prog 23 (.t (.agg [.sc (.int .i64 a0), .sc (.int .i64 a1)])) (.t (.agg [.sc (.int .i64 b0), .sc (.int .i64 b1)])) = some (decide (a0 = b0 ∧ a1 = b1)) :=
  (show aEq Try.prog 23 (.t (.agg [.sc (.int .i64 a0), .sc (.int .i64 a1)])) (.t (.agg [.sc (.int .i64 b0), .sc (.int .i64 b1)])) = some ((a0 == b0) && ((a1 == b1) && true)) by kernel_rfl).trans (by congr 1; rw [Bool.eq_iff_iff]; simp [and_assoc])

theorem eqT51 {a0 b0 : Bool} {a1 b1 : Int} {a2 b2 : Int} {a3 b3 : Int} {a4 b4 : Int} {a5 b5 : Int} {a6 b6 : Int} {a7 b7 : Int} : aEq Try.prog 51 (.t (.agg [.sc (.bool a0), .sc (.int .i64 a1), .sc (.int .i64 a2), .sc (.int .i64 a3), .sc (.int .i64 a4), .sc (.int .i64 a5), .sc (.int .i64 a6), .sc (.int .i64 a7)])) (.t (.agg [.sc (.bool b0), .sc (.int .i64 b1), .sc (.int .i64 b2), .sc (.int .i64 b3), .sc (.int .i64 b4), .sc (.int .i64 b5), .sc (.int .i64 b6), .sc (.int .i64 b7)])) = some (decide (a0 = b0 ∧ a1 = b1 ∧ a2 = b2 ∧ a3 = b3 ∧ a4 = b4 ∧ a5 = b5 ∧ a6 = b6 ∧ a7 = b7)) :=
  (show aEq Try.prog 51 (.t (.agg [.sc (.bool a0), .sc (.int .i64 a1), .sc (.int .i64 a2), .sc (.int .i64 a3), .sc (.int .i64 a4), .sc (.int .i64 a5), .sc (.int .i64 a6), .sc (.int .i64 a7)])) (.t (.agg [.sc (.bool b0), .sc (.int .i64 b1), .sc (.int .i64 b2), .sc (.int .i64 b3), .sc (.int .i64 b4), .sc (.int .i64 b5), .sc (.int .i64 b6), .sc (.int .i64 b7)])) = some ((a0 == b0) && (((((a1 == b1) && ((a2 == b2) && true)) && ((a3 == b3) && (((a4 == b4) && ((a5 == b5) && true)) && ((a6 == b6) && true)))) && ((a7 == b7) && true)) && true)) by kernel_rfl).trans (by congr 1; rw [Bool.eq_iff_iff]; simp [and_assoc])

theorem eqT45 {a0 b0 : Int} {a1 b1 : Int} {a2 b2 : Int} {a3 b3 : Int} {a4 b4 : Int} {a5 b5 : Int} : aEq Try.prog 45 (.t (.agg [.sc (.int .i64 a0), .sc (.int .i64 a1), .sc (.int .i64 a2), .sc (.int .i64 a3), .sc (.int .i64 a4), .sc (.int .i64 a5)])) (.t (.agg [.sc (.int .i64 b0), .sc (.int .i64 b1), .sc (.int .i64 b2), .sc (.int .i64 b3), .sc (.int .i64 b4), .sc (.int .i64 b5)])) = some (decide (a0 = b0 ∧ a1 = b1 ∧ a2 = b2 ∧ a3 = b3 ∧ a4 = b4 ∧ a5 = b5)) :=
  (show aEq Try.prog 45 (.t (.agg [.sc (.int .i64 a0), .sc (.int .i64 a1), .sc (.int .i64 a2), .sc (.int .i64 a3), .sc (.int .i64 a4), .sc (.int .i64 a5)])) (.t (.agg [.sc (.int .i64 b0), .sc (.int .i64 b1), .sc (.int .i64 b2), .sc (.int .i64 b3), .sc (.int .i64 b4), .sc (.int .i64 b5)])) = some (((a0 == b0) && ((a1 == b1) && true)) && ((a2 == b2) && (((a3 == b3) && ((a4 == b4) && true)) && ((a5 == b5) && true)))) by kernel_rfl).trans (by congr 1; rw [Bool.eq_iff_iff]; simp [and_assoc])

noncomputable def il3c : C :=
  .seq (.ops ([
  ⟨some 1, none, none, .objs [], .bx false (.v 0)⟩,
  ⟨some 2, none, none, .objs [], .mv (.c (.sc (.bool false)))⟩])) <|
  .seq (.seq (.ops ([
  ⟨some 9, none, none, .objs [], .call (.c (.fn (.func 11) [] [])) []⟩,
  ⟨some 10, none, none, .objs [], .nt (.v 9)⟩])) <|
  .cond (.v 10) (.seq (.ops ([
    ⟨some 2, none, none, .objs [], .mv (.c (.sc (.bool false)))⟩])) <|
    .ret) (.nop)) <|
  .seq (.ops ([
  ⟨some 11, none, none, .objs [], .ld true 5 (.v 1)⟩,
  ⟨some 12, none, none, .objs [], .call (.c (.fn (.func 12) [] [])) [(.v 11)]⟩,
  ⟨some 3, none, none, .objs [], .nw 5 (.agg [(.sc (.int .i64 0)), (.sc (.int .i64 0)), (.sc (.slice none 0 0)), (.sc (.slice none 0 0)), (.sc (.slice none 0 0))])⟩,
  ⟨none, none, none, .objs [], .st 5 (.v 3) (.v 12)⟩])) <|
  .seq (.ops ([
  ⟨some 13, none, none, .objs [], .ld true 5 (.v 3)⟩,
  ⟨some 14, none, none, .objs [], .call (.c (.fn (.func 13) [] [])) [(.v 13)]⟩,
  ⟨some 4, none, none, .objs [], .mv (.v 14)⟩])) <|
  .seq (.seq (.ops ([
  ⟨some 15, none, none, .objs [], .ld true 5 (.v 3)⟩,
  ⟨some 16, none, none, .objs [], .call (.c (.fn (.func 14) [] [])) [(.v 15)]⟩] ++ mkL [3, 4, 16] ([
  ⟨some 5, none, none, .objs [], .mv (.v 16)⟩]))) <|
  .seq (.ops ([
  ⟨some 17, none, none, .objs [], .mv (.v 4)⟩,
  ⟨some 18, none, none, .objs [], .mv (.v 5)⟩,
  ⟨some 19, none, none, .objs [], .bin .eql false (.v 18) (.c (.sc (.int .i64 0)))⟩,
  ⟨some 20, none, none, .objs [], .bin .neq true (.v 17) (.v 19)⟩,
  ⟨some 21, none, none, .objs [], .mv (.v 20)⟩,
  ⟨some 22, some (21, false), none, .objs [], .mv (.v 4)⟩,
  ⟨some 23, some (21, false), none, .objs [], .nt (.v 22)⟩,
  ⟨some 24, some (21, false), none, .objs [], .mv (.v 23)⟩,
  ⟨some 25, some (24, true), none, .objs [], .mv (.v 5)⟩,
  ⟨some 26, some (24, true), none, .objs [], .bin .neq false (.v 25) (.c (.sc (.int .i64 290)))⟩,
  ⟨some 27, some (21, false), none, .objs [], .pk (.v 24) (.v 26) (.c (.sc (.bool false)))⟩,
  ⟨some 28, none, none, .objs [], .pk (.v 21) (.c (.sc (.bool true))) (.v 27)⟩])) <|
  .cond (.v 28) (.seq (.ops ([
    ⟨some 2, none, none, .objs [], .mv (.c (.sc (.bool false)))⟩])) <|
    .ret) (.nop)) <| mkC [3] <|
  .seq (.ops ([
  ⟨some 30, none, none, .objs [], .fa 0 (.v 3)⟩,
  ⟨some 31, none, none, .objs [], .ld true 2 (.v 30)⟩,
  ⟨some 32, none, none, .objs [], .fa 2 (.v 3)⟩,
  ⟨some 33, none, none, .objs [], .ld false 1 (.v 32)⟩,
  ⟨some 34, none, none, .objs [], .fa 3 (.v 3)⟩,
  ⟨some 35, none, none, .objs [], .ld false 1 (.v 34)⟩,
  ⟨some 36, none, none, .objs [], .call (.c (.fn (.func 15) [] [])) [(.v 31), (.v 33), (.v 35)]⟩,
  ⟨some 29, none, none, .objs [], .mv (.v 36)⟩,
  ⟨some 37, none, none, .objs [], .ex (.v 29) 0⟩,
  ⟨some 38, none, none, .objs [], .ex (.v 29) 1⟩,
  ⟨some 6, none, none, .objs [], .nw 5 (.agg [(.sc (.int .i64 0)), (.sc (.int .i64 0)), (.sc (.slice none 0 0)), (.sc (.slice none 0 0)), (.sc (.slice none 0 0))])⟩,
  ⟨none, none, none, .objs [], .st 5 (.v 6) (.v 37)⟩,
  ⟨some 7, none, none, .objs [], .mv (.v 38)⟩])) <|
  .seq (.opsD [(1, 9), (3, 9), (5, 9), (1, 11), (3, 11), (5, 11), (7, 11), (8, 11)] ([
  ⟨some 39, none, none, .objs [], .fa 0 (.v 3)⟩] ++ mkL [3, 6, 7, 39] ([
  ⟨some 40, none, none, .objs [(.v 39)], .ld true 2 (.v 39)⟩,
  ⟨some 41, none, none, .objs [], .fa 2 (.v 3)⟩,
  ⟨some 42, none, none, .objs [(.v 41)], .ld false 1 (.v 41)⟩,
  ⟨some 43, none, none, .objs [], .fa 3 (.v 3)⟩,
  ⟨some 44, none, none, .objs [(.v 43)], .ld false 1 (.v 43)⟩,
  ⟨some 45, none, none, .objs [], .fa 2 (.v 3)⟩,
  ⟨some 46, none, none, .objs [(.v 45)], .ld false 1 (.v 45)⟩,
  ⟨some 47, none, none, .objs [(.v 46)], .lenS (.v 46)⟩,
  ⟨some 48, none, none, .objs [], .raw (opOf Try.prog 3 9 9)⟩,
  ⟨some 49, none, none, .objs [], .bd [(.sc (.int .i64 0)), (.sc (.int .i64 0)), (.sc (.slice none 0 0)), (.sc (.slice none 0 0)), (.sc (.slice none 0 0))] [(0, 2, (.v 40)), (2, 1, (.v 42)), (3, 1, (.v 44)), (4, 1, (.v 48))]⟩,
  ⟨some 8, none, none, .objs [], .nw 5 (.agg [(.sc (.int .i64 0)), (.sc (.int .i64 0)), (.sc (.slice none 0 0)), (.sc (.slice none 0 0)), (.sc (.slice none 0 0))])⟩,
  ⟨none, none, none, .objs [(.v 8)], .st 5 (.v 8) (.v 49)⟩]))) <|
  .seq (.seq (.ops ([
  ⟨some 50, none, none, .objs [], .ld true 5 (.v 8)⟩,
  ⟨some 51, none, none, .objs [], .call (.c (.fn (.func 13) [] [])) [(.v 50)]⟩] ++ mkL [6, 7, 8, 51] ([
  ⟨some 52, none, none, .objs [], .nt (.v 51)⟩]))) <|
  .cond (.v 52) (.seq (.ops ([
    ⟨some 53, none, none, .objs [], .ld true 5 (.v 6)⟩,
    ⟨some 54, none, none, .objs [], .mv (.v 7)⟩,
    ⟨some 55, none, none, .objs [], .call (.c (.fn (.func 16) [] [])) [(.v 53), (.v 54), (.c (.sc (.int .i64 2)))]⟩,
    ⟨some 2, none, none, .objs [], .mv (.v 55)⟩])) <|
    .ret) (.nop)) <|
  .seq (.ops ([
  ⟨some 56, none, none, .objs [], .ld true 5 (.v 6)⟩,
  ⟨some 57, none, none, .objs [], .mv (.v 7)⟩,
  ⟨some 58, none, none, .objs [], .ld true 5 (.v 8)⟩,
  ⟨some 59, none, none, .objs [], .call (.c (.fn (.func 17) [] [])) [(.v 56), (.v 57), (.v 58)]⟩,
  ⟨some 2, none, none, .objs [], .mv (.v 59)⟩])) <|
  .ret

theorem il3_eq : cFn Try.prog pol 3 = some ⟨60, il3c, [(2, none)]⟩ := by kernel_rfl
theorem raw3_9_9 {e : FEnv} {h : Heap} : iStep Try.prog pol 3 e h (.raw (opOf Try.prog 3 9 9)) = mkSl 8 64 (.agg [(.sc (.bool false)), (.sc (.int .i64 0)), (.sc (.int .i64 0)), (.sc (.int .i64 0)), (.sc (.int .i64 0)), (.sc (.int .i64 0)), (.sc (.int .i64 0)), (.sc (.int .i64 0))]) h (asNat (Src.get e (.v 47))) (asNat (Src.get e (.v 47))) := raw_makeSlice (t := 25) (l := (.tmp 47)) (c := (.tmp 47)) (elem := 51) (by kernel_rfl) (by kernel_rfl) (by kernel_rfl) (by kernel_rfl) (by kernel_rfl) (by kernel_rfl)

noncomputable def il12c : C :=
  .seq (.ops ([
  ⟨some 1, none, none, .objs [], .bx true (.v 0)⟩,
  ⟨some 2, none, none, .objs [], .nw 5 (.agg [(.sc (.int .i64 0)), (.sc (.int .i64 0)), (.sc (.slice none 0 0)), (.sc (.slice none 0 0)), (.sc (.slice none 0 0))])⟩])) <|
  .seq (.opsD [(11, 22), (18, 22), (18, 24)] ([
  ⟨some 3, none, none, .objs [], .fa 2 (.v 1)⟩,
  ⟨some 4, none, none, .objs [(.v 3)], .ld false 1 (.v 3)⟩,
  ⟨some 5, none, none, .objs [], .fa 2 (.v 1)⟩,
  ⟨some 6, none, none, .objs [(.v 5)], .ld false 1 (.v 5)⟩,
  ⟨some 7, none, none, .objs [(.v 6)], .lenS (.v 6)⟩,
  ⟨some 8, none, none, .objs [], .mnx false (.v 7) (.c (.sc (.int .i64 30)))⟩,
  ⟨some 9, none, none, .objs [], .sl 1 (.v 4) none (some (.v 8)) none⟩,
  ⟨some 10, none, none, .objs [], .fa 3 (.v 1)⟩,
  ⟨some 11, none, none, .objs [(.v 10)], .ld false 1 (.v 10)⟩,
  ⟨some 12, none, none, .objs [], .fa 3 (.v 1)⟩,
  ⟨some 13, none, none, .objs [(.v 12)], .ld false 1 (.v 12)⟩,
  ⟨some 14, none, none, .objs [(.v 13)], .lenS (.v 13)⟩] ++ mkL [1, 2, 9, 11, 14] ([
  ⟨some 15, none, none, .objs [], .mnx false (.v 14) (.c (.sc (.int .i64 30)))⟩,
  ⟨some 16, none, none, .objs [], .sl 1 (.v 11) none (some (.v 15)) none⟩,
  ⟨some 17, none, none, .objs [], .fa 4 (.v 1)⟩,
  ⟨some 18, none, none, .objs [(.v 17)], .ld false 1 (.v 17)⟩,
  ⟨some 19, none, none, .objs [], .fa 4 (.v 1)⟩,
  ⟨some 20, none, none, .objs [(.v 19)], .ld false 1 (.v 19)⟩,
  ⟨some 21, none, none, .objs [(.v 20)], .lenS (.v 20)⟩,
  ⟨some 22, none, none, .objs [], .mnx false (.v 21) (.c (.sc (.int .i64 30)))⟩,
  ⟨some 23, none, none, .objs [], .sl 8 (.v 18) none (some (.v 22)) none⟩,
  ⟨some 24, none, none, .objs [], .fa 2 (.v 1)⟩,
  ⟨none, none, none, .objs [(.v 24)], .st 1 (.v 24) (.v 9)⟩,
  ⟨some 25, none, none, .objs [], .fa 3 (.v 1)⟩,
  ⟨none, none, none, .objs [(.v 25)], .st 1 (.v 25) (.v 16)⟩,
  ⟨some 26, none, none, .objs [], .fa 4 (.v 1)⟩] ++ mkL [1, 2, 23, 26] ([
  ⟨none, none, none, .objs [(.v 26)], .st 1 (.v 26) (.v 23)⟩])))) <|
  .seq (.ops ([
  ⟨some 27, none, none, .objs [], .ld true 5 (.v 1)⟩,
  ⟨none, none, none, .objs [], .st 5 (.v 2) (.v 27)⟩])) <|
  .ret

theorem il12_eq : cFn Try.prog pol 12 = some ⟨28, il12c, [(2, some (true, 5))]⟩ := by kernel_rfl

noncomputable def il13l0b : C :=
  .seq (.seq (.ops ([
  ⟨some 31, none, none, .objs [], .mv (.v 4)⟩,
  ⟨some 32, none, none, .objs [], .mv (.v 3)⟩,
  ⟨some 33, none, none, .objs [], .bin .lss false (.v 31) (.v 32)⟩])) <|
  .cond (.v 33) (.nop) (.exit 0)) <|
  .seq (.block 1 (.seq (.ops ([
    ⟨some 36, none, none, .objs [], .fa 4 (.v 1)⟩,
    ⟨some 37, none, none, .objs [], .ld false 1 (.v 36)⟩,
    ⟨some 38, none, none, .objs [], .mv (.v 4)⟩,
    ⟨some 39, none, none, .objs [], .iaS 8 (.v 37) (.v 38)⟩,
    ⟨some 40, none, none, .objs [], .ld true 8 (.v 39)⟩,
    ⟨some 5, none, none, .objs [], .nw 8 (.agg [(.sc (.bool false)), (.sc (.int .i64 0)), (.sc (.int .i64 0)), (.sc (.int .i64 0)), (.sc (.int .i64 0)), (.sc (.int .i64 0)), (.sc (.int .i64 0)), (.sc (.int .i64 0))])⟩,
    ⟨none, none, none, .objs [], .st 8 (.v 5) (.v 40)⟩])) <|
    .seq (.seq (.opsD [] ([
    ⟨some 41, none, none, .objs [], .fa 2 (.v 1)⟩,
    ⟨some 42, none, none, .objs [(.v 41)], .ld false 1 (.v 41)⟩,
    ⟨some 43, none, none, .objs [], .mv (.v 4)⟩,
    ⟨some 44, none, none, .objs [], .iaS 1 (.v 42) (.v 43)⟩] ++ mkL [1, 3, 4, 5, 44] ([
    ⟨some 45, none, none, .objs [(.v 44)], .ld false 1 (.v 44)⟩,
    ⟨some 46, none, none, .objs [], .bin .lss false (.v 45) (.c (.sc (.int .i64 0)))⟩,
    ⟨some 47, none, none, .objs [], .mv (.v 46)⟩,
    ⟨some 48, some (47, false), none, .objs [], .fa 2 (.v 1)⟩,
    ⟨some 49, some (47, false), none, .objs [(.v 48)], .ld false 1 (.v 48)⟩,
    ⟨some 50, some (47, false), none, .objs [], .mv (.v 4)⟩,
    ⟨some 51, some (47, false), none, .objs [], .iaS 1 (.v 49) (.v 50)⟩,
    ⟨some 52, some (47, false), none, .objs [(.v 51)], .ld false 1 (.v 51)⟩,
    ⟨some 53, some (47, false), none, .objs [], .bin .gtr false (.v 52) (.c (.sc (.int .i64 47)))⟩,
    ⟨some 54, none, none, .objs [], .pk (.v 47) (.c (.sc (.bool true))) (.v 53)⟩,
    ⟨some 55, none, none, .objs [], .mv (.v 54)⟩,
    ⟨some 56, some (55, false), none, .objs [], .mv (.v 4)⟩,
    ⟨some 57, some (55, false), none, .objs [], .bin .gtr false (.v 56) (.c (.sc (.int .i64 0)))⟩,
    ⟨some 58, some (55, false), none, .objs [], .mv (.v 57)⟩] ++ mkL [1, 3, 4, 5, 55, 58] ([
    ⟨some 59, some (58, true), none, .objs [], .fa 2 (.v 1)⟩,
    ⟨some 60, some (58, true), none, .objs [(.v 59)], .ld false 1 (.v 59)⟩,
    ⟨some 61, some (58, true), none, .objs [], .mv (.v 4)⟩,
    ⟨some 62, some (58, true), none, .objs [], .iaS 1 (.v 60) (.v 61)⟩,
    ⟨some 63, some (58, true), none, .objs [(.v 62)], .ld false 1 (.v 62)⟩,
    ⟨some 64, some (58, true), none, .objs [], .fa 2 (.v 1)⟩,
    ⟨some 65, some (58, true), none, .objs [(.v 64)], .ld false 1 (.v 64)⟩,
    ⟨some 66, some (58, true), none, .objs [], .mv (.v 4)⟩,
    ⟨some 67, some (58, true), none, .objs [], .bin .sub false (.v 66) (.c (.sc (.int .i64 1)))⟩,
    ⟨some 68, some (58, true), none, .objs [], .iaS 1 (.v 65) (.v 67)⟩,
    ⟨some 69, some (58, true), none, .objs [(.v 68)], .ld false 1 (.v 68)⟩,
    ⟨some 70, some (58, true), none, .objs [], .bin .leq false (.v 63) (.v 69)⟩,
    ⟨some 71, some (55, false), none, .objs [], .pk (.v 58) (.v 70) (.c (.sc (.bool false)))⟩,
    ⟨some 72, none, none, .objs [], .pk (.v 55) (.c (.sc (.bool true))) (.v 71)⟩] ++ mkL [1, 3, 4, 5, 72] ([
    ⟨some 73, none, none, .objs [], .mv (.v 72)⟩,
    ⟨some 74, some (73, false), none, .objs [], .fa 3 (.v 1)⟩,
    ⟨some 75, some (73, false), none, .objs [(.v 74)], .ld false 1 (.v 74)⟩,
    ⟨some 76, some (73, false), none, .objs [], .mv (.v 4)⟩,
    ⟨some 77, some (73, false), none, .objs [], .iaS 1 (.v 75) (.v 76)⟩,
    ⟨some 78, some (73, false), none, .objs [(.v 77)], .ld false 1 (.v 77)⟩,
    ⟨some 79, some (73, false), none, .objs [], .bin .lss false (.v 78) (.c (.sc (.int .i64 1)))⟩,
    ⟨some 80, none, none, .objs [], .pk (.v 73) (.c (.sc (.bool true))) (.v 79)⟩,
    ⟨some 81, none, none, .objs [], .mv (.v 80)⟩,
    ⟨some 82, some (81, false), none, .objs [], .fa 3 (.v 1)⟩,
    ⟨some 83, some (81, false), none, .objs [(.v 82)], .ld false 1 (.v 82)⟩,
    ⟨some 84, some (81, false), none, .objs [], .mv (.v 4)⟩,
    ⟨some 85, some (81, false), none, .objs [], .iaS 1 (.v 83) (.v 84)⟩,
    ⟨some 86, some (81, false), none, .objs [(.v 85)], .ld false 1 (.v 85)⟩] ++ mkL [1, 3, 4, 5, 81, 86] ([
    ⟨some 87, some (81, false), none, .objs [], .bin .gtr false (.v 86) (.c (.sc (.int .i64 1000)))⟩,
    ⟨some 88, none, none, .objs [], .pk (.v 81) (.c (.sc (.bool true))) (.v 87)⟩])))))) <|
    .cond (.v 88) (.seq (.ops ([
      ⟨some 2, none, none, .objs [], .mv (.c (.sc (.bool false)))⟩])) <|
      .ret) (.nop)) <|
    .seq (.ops ([
    ⟨some 89, none, none, .objs [], .fa 0 (.v 5)⟩,
    ⟨some 90, none, none, .objs [], .ld false 1 (.v 89)⟩,
    ⟨some 91, none, none, .objs [], .mv (.v 90)⟩,
    ⟨some 92, some (91, true), none, .objs [], .fa 1 (.v 5)⟩,
    ⟨some 93, some (91, true), none, .objs [], .ld true 7 (.v 92)⟩,
    ⟨some 94, some (91, true), none, .objs [], .call (.c (.fn (.func 32) [] [])) [(.v 93)]⟩,
    ⟨some 95, some (91, true), none, .objs [], .nt (.v 94)⟩,
    ⟨some 96, none, none, .objs [], .pk (.v 91) (.v 95) (.c (.sc (.bool false)))⟩,
    ⟨some 97, none, none, .objs [], .mv (.v 96)⟩,
    ⟨some 98, some (97, false), none, .objs [], .fa 0 (.v 5)⟩,
    ⟨some 99, some (97, false), none, .objs [], .ld false 1 (.v 98)⟩] ++ mkL [1, 3, 4, 5, 97, 99] ([
    ⟨some 100, some (97, false), none, .objs [], .nt (.v 99)⟩,
    ⟨some 101, some (97, false), none, .objs [], .mv (.v 100)⟩,
    ⟨some 102, some (101, true), none, .objs [], .ld true 8 (.v 5)⟩,
    ⟨some 103, some (101, true), none, .objs [], .bd [(.sc (.bool false)), (.sc (.int .i64 0)), (.sc (.int .i64 0)), (.sc (.int .i64 0)), (.sc (.int .i64 0)), (.sc (.int .i64 0)), (.sc (.int .i64 0)), (.sc (.int .i64 0))] []⟩,
    ⟨some 104, some (101, true), none, .objs [], .raw (opOf Try.prog 13 10 15)⟩,
    ⟨some 105, some (97, false), none, .objs [], .pk (.v 101) (.v 104) (.c (.sc (.bool false)))⟩,
    ⟨some 106, none, none, .objs [], .pk (.v 97) (.c (.sc (.bool true))) (.v 105)⟩]))) <|
    .cond (.v 106) (.seq (.ops ([
      ⟨some 2, none, none, .objs [], .mv (.c (.sc (.bool false)))⟩])) <|
      .ret) (.nop))) <|
  .ops ([
  ⟨some 34, none, none, .objs [], .mv (.v 4)⟩,
  ⟨some 35, none, none, .objs [], .bin .add false (.v 34) (.c (.sc (.int .i64 1)))⟩,
  ⟨some 4, none, none, .objs [], .mv (.v 35)⟩])
noncomputable def il13l0 : C := il13l0b
theorem il13l0_go {P : Program} {pol : Pol} {K : Oracle} {I : Inl} {n : Nat} {f : FuncId} {R : Xit → FEnv → Heap → Prop} {e : FEnv} {h : Heap} : wc P pol K I n f il13l0 R e h = wc P pol K I n f il13l0b R e h := (fun x => x) rfl

noncomputable def il13c : C :=
  .seq (.ops ([
  ⟨some 1, none, none, .objs [], .bx false (.v 0)⟩,
  ⟨some 2, none, none, .objs [], .mv (.c (.sc (.bool false)))⟩])) <|
  .seq (.ops ([
  ⟨some 6, none, none, .objs [], .fa 2 (.v 1)⟩,
  ⟨some 7, none, none, .objs [], .ld false 1 (.v 6)⟩,
  ⟨some 8, none, none, .objs [], .lenS (.v 7)⟩,
  ⟨some 3, none, none, .objs [], .mv (.v 8)⟩])) <|
  .seq (.seq (.ops ([
  ⟨some 9, none, none, .objs [], .fa 0 (.v 1)⟩,
  ⟨some 10, none, none, .objs [], .ld true 2 (.v 9)⟩,
  ⟨some 11, none, none, .objs [], .call (.c (.fn (.func 40) [] [])) [(.v 10)]⟩,
  ⟨some 12, none, none, .objs [], .nt (.v 11)⟩,
  ⟨some 13, none, none, .objs [], .mv (.v 12)⟩,
  ⟨some 14, some (13, false), none, .objs [], .mv (.v 3)⟩,
  ⟨some 15, some (13, false), none, .objs [], .bin .gtr false (.v 14) (.c (.sc (.int .i64 24)))⟩,
  ⟨some 16, none, none, .objs [], .pk (.v 13) (.c (.sc (.bool true))) (.v 15)⟩] ++ mkL [1, 3, 16] ([
  ⟨some 17, none, none, .objs [], .mv (.v 16)⟩,
  ⟨some 18, some (17, false), none, .objs [], .fa 3 (.v 1)⟩,
  ⟨some 19, some (17, false), none, .objs [], .ld false 1 (.v 18)⟩,
  ⟨some 20, some (17, false), none, .objs [], .lenS (.v 19)⟩,
  ⟨some 21, some (17, false), none, .objs [], .mv (.v 3)⟩,
  ⟨some 22, some (17, false), none, .objs [], .bin .neq false (.v 20) (.v 21)⟩,
  ⟨some 23, none, none, .objs [], .pk (.v 17) (.c (.sc (.bool true))) (.v 22)⟩,
  ⟨some 24, none, none, .objs [], .mv (.v 23)⟩,
  ⟨some 25, some (24, false), none, .objs [], .fa 4 (.v 1)⟩,
  ⟨some 26, some (24, false), none, .objs [], .ld false 1 (.v 25)⟩,
  ⟨some 27, some (24, false), none, .objs [], .lenS (.v 26)⟩,
  ⟨some 28, some (24, false), none, .objs [], .mv (.v 3)⟩,
  ⟨some 29, some (24, false), none, .objs [], .bin .neq false (.v 27) (.v 28)⟩,
  ⟨some 30, none, none, .objs [], .pk (.v 24) (.c (.sc (.bool true))) (.v 29)⟩]))) <| mkC [1, 3, 30] <|
  .cond (.v 30) (.seq (.ops ([
    ⟨some 2, none, none, .objs [], .mv (.c (.sc (.bool false)))⟩])) <|
    .ret) (.nop)) <|
  .seq (.seq (.ops ([
  ⟨some 4, none, none, .objs [], .mv (.c (.sc (.int .i64 0)))⟩])) <|
  .block 0 (.loop (some [1, 3, 4]) il13l0)) <|
  .seq (.ops ([
  ⟨some 2, none, none, .objs [], .mv (.c (.sc (.bool true)))⟩])) <|
  .ret

theorem il13_eq : cFn Try.prog pol 13 = some ⟨107, il13c, [(2, none)]⟩ := by kernel_rfl
theorem raw13_10_15 {e : FEnv} {h : Heap} : iStep Try.prog pol 13 e h (.raw (opOf Try.prog 13 10 15)) = vOf h (binE Try.prog true 51 (.tmp 102) (.tmp 103) (Src.get e (.v 102)) (Src.get e (.v 103))) := raw_neq (x := (.tmp 102)) (y := (.tmp 103)) (s := 51) (by kernel_rfl)

noncomputable def il14l0b : C :=
  .seq (.ops ([
  ⟨some 37, none, none, .objs [], .bin .lss false (.v 36) (.v 35)⟩])) <|
  .seq (.cond (.v 37) (.nop) (.exit 0)) <|
  .seq (.block 1 (.seq (.ops ([
    ⟨some 38, none, none, .objs [], .mv (.v 36)⟩,
    ⟨some 39, none, none, .objs [], .iaS 1 (.v 34) (.v 36)⟩,
    ⟨some 40, none, none, .objs [], .ld false 1 (.v 39)⟩,
    ⟨some 4, none, none, .objs [], .mv (.v 38)⟩,
    ⟨some 5, none, none, .objs [], .mv (.v 40)⟩])) <|
    .seq (.seq (.ops ([
    ⟨some 41, none, none, .objs [], .mv (.v 5)⟩,
    ⟨some 42, none, none, .objs [], .bin .lss false (.v 41) (.c (.sc (.int .i64 0)))⟩,
    ⟨some 43, none, none, .objs [], .mv (.v 42)⟩,
    ⟨some 44, some (43, false), none, .objs [], .mv (.v 5)⟩,
    ⟨some 45, some (43, false), none, .objs [], .bin .geq false (.v 44) (.c (.sc (.int .i64 48)))⟩,
    ⟨some 46, none, none, .objs [], .pk (.v 43) (.c (.sc (.bool true))) (.v 45)⟩,
    ⟨some 47, none, none, .objs [], .mv (.v 46)⟩,
    ⟨some 48, some (47, false), none, .objs [], .mv (.v 4)⟩] ++ mkL [1, 4, 5, 34, 35, 36, 47, 48] ([
    ⟨some 49, some (47, false), none, .objs [], .bin .gtr false (.v 48) (.c (.sc (.int .i64 0)))⟩,
    ⟨some 50, some (47, false), none, .objs [], .mv (.v 49)⟩,
    ⟨some 51, some (50, true), none, .objs [], .mv (.v 5)⟩,
    ⟨some 52, some (50, true), none, .objs [], .fa 2 (.v 1)⟩,
    ⟨some 53, some (50, true), none, .objs [], .ld false 1 (.v 52)⟩,
    ⟨some 54, some (50, true), none, .objs [], .mv (.v 4)⟩,
    ⟨some 55, some (50, true), none, .objs [], .bin .sub false (.v 54) (.c (.sc (.int .i64 1)))⟩,
    ⟨some 56, some (50, true), none, .objs [], .iaS 1 (.v 53) (.v 55)⟩,
    ⟨some 57, some (50, true), none, .objs [], .ld false 1 (.v 56)⟩,
    ⟨some 58, some (50, true), none, .objs [], .bin .leq false (.v 51) (.v 57)⟩,
    ⟨some 59, some (47, false), none, .objs [], .pk (.v 50) (.v 58) (.c (.sc (.bool false)))⟩,
    ⟨some 60, none, none, .objs [], .pk (.v 47) (.c (.sc (.bool true))) (.v 59)⟩]))) <|
    .cond (.v 60) (.seq (.ops ([
      ⟨some 2, none, none, .objs [], .mv (.c (.sc (.int .i64 290)))⟩])) <|
      .ret) (.nop)) <|
    .seq (.seq (.ops ([
    ⟨some 61, none, none, .objs [], .fa 3 (.v 1)⟩] ++ mkL [1, 4, 34, 35, 36, 61] ([
    ⟨some 62, none, none, .objs [], .ld false 1 (.v 61)⟩,
    ⟨some 63, none, none, .objs [], .mv (.v 4)⟩,
    ⟨some 64, none, none, .objs [], .iaS 1 (.v 62) (.v 63)⟩,
    ⟨some 65, none, none, .objs [], .ld false 1 (.v 64)⟩,
    ⟨some 66, none, none, .objs [], .bin .lss false (.v 65) (.c (.sc (.int .i64 1)))⟩,
    ⟨some 67, none, none, .objs [], .mv (.v 66)⟩,
    ⟨some 68, some (67, false), none, .objs [], .fa 3 (.v 1)⟩,
    ⟨some 69, some (67, false), none, .objs [], .ld false 1 (.v 68)⟩,
    ⟨some 70, some (67, false), none, .objs [], .mv (.v 4)⟩,
    ⟨some 71, some (67, false), none, .objs [], .iaS 1 (.v 69) (.v 70)⟩,
    ⟨some 72, some (67, false), none, .objs [], .ld false 1 (.v 71)⟩,
    ⟨some 73, some (67, false), none, .objs [], .bin .gtr false (.v 72) (.c (.sc (.int .i64 1000)))⟩,
    ⟨some 74, none, none, .objs [], .pk (.v 67) (.c (.sc (.bool true))) (.v 73)⟩]))) <|
    .cond (.v 74) (.seq (.ops ([
      ⟨some 2, none, none, .objs [], .mv (.c (.sc (.int .i64 290)))⟩])) <|
      .ret) (.nop)) <| mkC [1, 4, 34, 35, 36] <|
    .seq (.ops ([
    ⟨some 75, none, none, .objs [], .fa 4 (.v 1)⟩,
    ⟨some 76, none, none, .objs [], .ld false 1 (.v 75)⟩,
    ⟨some 77, none, none, .objs [], .mv (.v 4)⟩,
    ⟨some 78, none, none, .objs [], .iaS 8 (.v 76) (.v 77)⟩,
    ⟨some 79, none, none, .objs [], .ld true 8 (.v 78)⟩,
    ⟨some 6, none, none, .objs [], .nw 8 (.agg [(.sc (.bool false)), (.sc (.int .i64 0)), (.sc (.int .i64 0)), (.sc (.int .i64 0)), (.sc (.int .i64 0)), (.sc (.int .i64 0)), (.sc (.int .i64 0)), (.sc (.int .i64 0))])⟩,
    ⟨none, none, none, .objs [], .st 8 (.v 6) (.v 79)⟩])) <|
    .seq (.ops ([
    ⟨some 80, none, none, .objs [], .fa 0 (.v 6)⟩,
    ⟨some 81, none, none, .objs [], .ld false 1 (.v 80)⟩,
    ⟨some 82, none, none, .objs [], .mv (.v 81)⟩,
    ⟨some 83, some (82, true), none, .objs [], .fa 1 (.v 6)⟩,
    ⟨some 84, some (82, true), none, .objs [], .ld true 7 (.v 83)⟩,
    ⟨some 85, some (82, true), none, .objs [], .call (.c (.fn (.func 36) [] [])) [(.v 84)]⟩,
    ⟨some 86, some (82, true), none, .objs [], .bin .neq false (.v 85) (.c (.sc (.int .i64 0)))⟩] ++ mkL [1, 6, 34, 35, 36, 82, 86] ([
    ⟨some 87, none, none, .objs [], .pk (.v 82) (.v 86) (.c (.sc (.bool false)))⟩,
    ⟨some 88, none, none, .objs [], .mv (.v 87)⟩,
    ⟨some 89, some (88, false), none, .objs [], .fa 0 (.v 6)⟩,
    ⟨some 90, some (88, false), none, .objs [], .ld false 1 (.v 89)⟩,
    ⟨some 91, some (88, false), none, .objs [], .nt (.v 90)⟩,
    ⟨some 92, some (88, false), none, .objs [], .mv (.v 91)⟩,
    ⟨some 93, some (92, true), none, .objs [], .ld true 8 (.v 6)⟩,
    ⟨some 94, some (92, true), none, .objs [], .bd [(.sc (.bool false)), (.sc (.int .i64 0)), (.sc (.int .i64 0)), (.sc (.int .i64 0)), (.sc (.int .i64 0)), (.sc (.int .i64 0)), (.sc (.int .i64 0)), (.sc (.int .i64 0))] []⟩,
    ⟨some 95, some (92, true), none, .objs [], .raw (opOf Try.prog 14 14 15)⟩,
    ⟨some 96, some (88, false), none, .objs [], .pk (.v 92) (.v 95) (.c (.sc (.bool false)))⟩,
    ⟨some 97, none, none, .objs [], .pk (.v 88) (.c (.sc (.bool true))) (.v 96)⟩]))) <|
    .cond (.v 97) (.seq (.ops ([
      ⟨some 2, none, none, .objs [], .mv (.c (.sc (.int .i64 290)))⟩])) <|
      .ret) (.nop))) <|
  .ops ([
  ⟨some 98, none, none, .objs [], .bin .add false (.v 36) (.c (.sc (.int .i64 1)))⟩,
  ⟨some 36, none, none, .objs [], .mv (.v 98)⟩])
noncomputable def il14l0 : C := il14l0b
theorem il14l0_go {P : Program} {pol : Pol} {K : Oracle} {I : Inl} {n : Nat} {f : FuncId} {R : Xit → FEnv → Heap → Prop} {e : FEnv} {h : Heap} : wc P pol K I n f il14l0 R e h = wc P pol K I n f il14l0b R e h := (fun x => x) rfl

noncomputable def il14c : C :=
  .seq (.ops ([
  ⟨some 1, none, none, .objs [], .bx false (.v 0)⟩,
  ⟨some 2, none, none, .objs [], .mv (.c (.sc (.int .i64 0)))⟩])) <|
  .seq (.ops ([
  ⟨some 7, none, none, .objs [], .fa 2 (.v 1)⟩,
  ⟨some 8, none, none, .objs [], .ld false 1 (.v 7)⟩,
  ⟨some 9, none, none, .objs [], .lenS (.v 8)⟩,
  ⟨some 3, none, none, .objs [], .mv (.v 9)⟩])) <|
  .seq (.seq (.ops ([
  ⟨some 10, none, none, .objs [], .mv (.v 3)⟩,
  ⟨some 11, none, none, .objs [], .bin .gtr false (.v 10) (.c (.sc (.int .i64 24)))⟩,
  ⟨some 12, none, none, .objs [], .mv (.v 11)⟩,
  ⟨some 13, some (12, false), none, .objs [], .fa 3 (.v 1)⟩,
  ⟨some 14, some (12, false), none, .objs [], .ld false 1 (.v 13)⟩,
  ⟨some 15, some (12, false), none, .objs [], .lenS (.v 14)⟩,
  ⟨some 16, some (12, false), none, .objs [], .mv (.v 3)⟩,
  ⟨some 17, some (12, false), none, .objs [], .bin .neq false (.v 15) (.v 16)⟩] ++ mkL [1, 3, 12, 17] ([
  ⟨some 18, none, none, .objs [], .pk (.v 12) (.c (.sc (.bool true))) (.v 17)⟩,
  ⟨some 19, none, none, .objs [], .mv (.v 18)⟩,
  ⟨some 20, some (19, false), none, .objs [], .fa 4 (.v 1)⟩,
  ⟨some 21, some (19, false), none, .objs [], .ld false 1 (.v 20)⟩,
  ⟨some 22, some (19, false), none, .objs [], .lenS (.v 21)⟩,
  ⟨some 23, some (19, false), none, .objs [], .mv (.v 3)⟩,
  ⟨some 24, some (19, false), none, .objs [], .bin .neq false (.v 22) (.v 23)⟩,
  ⟨some 25, none, none, .objs [], .pk (.v 19) (.c (.sc (.bool true))) (.v 24)⟩]))) <|
  .cond (.v 25) (.seq (.ops ([
    ⟨some 2, none, none, .objs [], .mv (.c (.sc (.int .i64 290)))⟩])) <|
    .ret) (.nop)) <|
  .seq (.seq (.ops ([
  ⟨some 26, none, none, .objs [], .fa 0 (.v 1)⟩,
  ⟨some 27, none, none, .objs [], .ld true 2 (.v 26)⟩,
  ⟨some 28, none, none, .objs [], .fa 0 (.v 1)⟩,
  ⟨some 29, none, none, .objs [], .ld true 2 (.v 28)⟩,
  ⟨some 30, none, none, .objs [], .bd [(.sc (.int .i64 0)), (.sc (.int .i64 0)), (.sc (.int .i64 0)), (.sc (.int .i64 0)), (.sc (.int .i64 0)), (.sc (.int .i64 0))] [(0, 2, (.v 27)), (3, 2, (.v 29))]⟩] ++ mkL [1, 30] ([
  ⟨some 31, none, none, .objs [], .call (.c (.fn (.func 35) [] [])) [(.v 30)]⟩,
  ⟨some 32, none, none, .objs [], .bin .neq false (.v 31) (.c (.sc (.int .i64 0)))⟩]))) <|
  .cond (.v 32) (.seq (.ops ([
    ⟨some 2, none, none, .objs [], .mv (.c (.sc (.int .i64 290)))⟩])) <|
    .ret) (.nop)) <|
  .seq (.seq (.ops ([
  ⟨some 33, none, none, .objs [], .fa 2 (.v 1)⟩,
  ⟨some 34, none, none, .objs [], .ld false 1 (.v 33)⟩,
  ⟨some 35, none, none, .objs [], .lenS (.v 34)⟩,
  ⟨some 36, none, none, .objs [], .mv (.c (.sc (.int .i64 0)))⟩])) <|
  .block 0 (.loop (some [1, 34, 35, 36]) il14l0)) <|
  .seq (.ops ([
  ⟨some 2, none, none, .objs [], .mv (.c (.sc (.int .i64 0)))⟩])) <|
  .ret

theorem il14_eq : cFn Try.prog pol 14 = some ⟨99, il14c, [(2, none)]⟩ := by kernel_rfl
theorem raw14_14_15 {e : FEnv} {h : Heap} : iStep Try.prog pol 14 e h (.raw (opOf Try.prog 14 14 15)) = vOf h (binE Try.prog true 51 (.tmp 93) (.tmp 94) (Src.get e (.v 93)) (Src.get e (.v 94))) := raw_neq (x := (.tmp 93)) (y := (.tmp 94)) (s := 51) (by kernel_rfl)

noncomputable def il15c : C :=
  .seq (.ops ([
  ⟨some 3, none, none, .objs [], .bx false (.v 0)⟩,
  ⟨some 6, none, none, .objs [], .nw 5 (.agg [(.sc (.int .i64 0)), (.sc (.int .i64 0)), (.sc (.slice none 0 0)), (.sc (.slice none 0 0)), (.sc (.slice none 0 0))])⟩,
  ⟨some 7, none, none, .objs [], .mv (.c (.sc (.int .i64 0)))⟩])) <|
  .seq (.opsD [(0, 5), (0, 7), (4, 7)] ([
  ⟨some 9, none, none, .objs [(.v 3)], .ld true 2 (.v 3)⟩,
  ⟨some 10, none, none, .objs [], .mv (.v 1)⟩,
  ⟨some 11, none, none, .objs [], .mv (.v 2)⟩,
  ⟨some 12, none, none, .objs [], .mv (.v 1)⟩,
  ⟨some 13, none, none, .objs [(.v 12)], .lenS (.v 12)⟩,
  ⟨some 14, none, none, .objs [], .raw (opOf Try.prog 15 1 5)⟩,
  ⟨some 15, none, none, .objs [], .bd [(.sc (.int .i64 0)), (.sc (.int .i64 0)), (.sc (.slice none 0 0)), (.sc (.slice none 0 0)), (.sc (.slice none 0 0))] [(0, 2, (.v 9)), (2, 1, (.v 10)), (3, 1, (.v 11)), (4, 1, (.v 14))]⟩,
  ⟨some 8, none, none, .objs [], .nw 5 (.agg [(.sc (.int .i64 0)), (.sc (.int .i64 0)), (.sc (.slice none 0 0)), (.sc (.slice none 0 0)), (.sc (.slice none 0 0))])⟩,
  ⟨none, none, none, .objs [(.v 8)], .st 5 (.v 8) (.v 15)⟩])) <|
  .seq (.seq (.ops ([
  ⟨some 16, none, none, .objs [], .ld true 5 (.v 8)⟩,
  ⟨some 17, none, none, .objs [], .call (.c (.fn (.func 14) [] [])) [(.v 16)]⟩] ++ mkL [6, 8, 17] ([
  ⟨some 18, none, none, .objs [], .bin .neq false (.v 17) (.c (.sc (.int .i64 0)))⟩]))) <|
  .cond (.v 18) (.seq (.ops ([
    ⟨some 19, none, none, .objs [], .bd [(.sc (.int .i64 0)), (.sc (.int .i64 0)), (.sc (.slice none 0 0)), (.sc (.slice none 0 0)), (.sc (.slice none 0 0))] []⟩,
    ⟨none, none, none, .objs [], .st 5 (.v 6) (.v 19)⟩,
    ⟨some 7, none, none, .objs [], .mv (.c (.sc (.int .i64 2)))⟩])) <|
    .ret) (.nop)) <|
  .seq (.ops ([
  ⟨some 20, none, none, .objs [], .ld true 5 (.v 8)⟩,
  ⟨some 21, none, some [(.c (.fn (.func 41) [] [])), (.v 20), (.c (.fn (.func 42) [] []))], .objs [], .call (.c (.fn (.func 41) [] [])) [(.v 20), (.c (.fn (.func 42) [] []))]⟩,
  ⟨none, none, none, .objs [], .st 5 (.v 6) (.v 21)⟩,
  ⟨some 7, none, none, .objs [], .mv (.c (.sc (.int .i64 0)))⟩])) <|
  .ret

theorem il15_eq : cFn Try.prog pol 15 = some ⟨22, il15c, [(6, some (true, 5)), (7, none)]⟩ := by kernel_rfl
theorem raw15_1_5 {e : FEnv} {h : Heap} : iStep Try.prog pol 15 e h (.raw (opOf Try.prog 15 1 5)) = mkSl 8 64 (.agg [(.sc (.bool false)), (.sc (.int .i64 0)), (.sc (.int .i64 0)), (.sc (.int .i64 0)), (.sc (.int .i64 0)), (.sc (.int .i64 0)), (.sc (.int .i64 0)), (.sc (.int .i64 0))]) h (asNat (Src.get e (.v 13))) (asNat (Src.get e (.v 13))) := raw_makeSlice (t := 25) (l := (.tmp 13)) (c := (.tmp 13)) (elem := 51) (by kernel_rfl) (by kernel_rfl) (by kernel_rfl) (by kernel_rfl) (by kernel_rfl) (by kernel_rfl)

noncomputable def il16c : C :=
  .seq (.ops ([
  ⟨some 3, none, none, .objs [], .bx false (.v 0)⟩,
  ⟨some 6, none, none, .objs [], .mv (.c (.sc (.bool false)))⟩])) <|
  .seq (.ops ([
  ⟨some 7, none, none, .objs [], .mv (.v 1)⟩,
  ⟨some 8, none, none, .objs [], .mv (.v 2)⟩,
  ⟨some 9, none, none, .objs [], .bin .eql false (.v 7) (.v 8)⟩,
  ⟨some 10, none, none, .objs [], .mv (.v 9)⟩,
  ⟨some 11, some (10, true), none, .objs [], .ld true 5 (.v 3)⟩,
  ⟨some 12, some (10, true), none, .objs [], .bd [(.sc (.int .i64 0)), (.sc (.int .i64 0)), (.sc (.slice none 0 0)), (.sc (.slice none 0 0)), (.sc (.slice none 0 0))] []⟩,
  ⟨some 13, some (10, true), none, .objs [], .call (.c (.fn (.func 43) [] [])) [(.v 11), (.v 12)]⟩,
  ⟨some 14, none, none, .objs [], .pk (.v 10) (.v 13) (.c (.sc (.bool false)))⟩,
  ⟨some 6, none, none, .objs [], .mv (.v 14)⟩])) <|
  .ret

theorem il16_eq : cFn Try.prog pol 16 = some ⟨15, il16c, [(6, none)]⟩ := by kernel_rfl

noncomputable def il17c : C :=
  .seq (.ops ([
  ⟨some 3, none, none, .objs [], .bx false (.v 0)⟩,
  ⟨some 5, none, none, .objs [], .bx false (.v 2)⟩,
  ⟨some 6, none, none, .objs [], .mv (.c (.sc (.bool false)))⟩])) <|
  .seq (.ops ([
  ⟨some 7, none, none, .objs [], .mv (.v 1)⟩,
  ⟨some 8, none, none, .objs [], .bin .eql false (.v 7) (.c (.sc (.int .i64 0)))⟩,
  ⟨some 9, none, none, .objs [], .mv (.v 8)⟩,
  ⟨some 10, some (9, true), none, .objs [], .ld true 5 (.v 3)⟩,
  ⟨some 11, some (9, true), none, .objs [], .ld true 5 (.v 5)⟩,
  ⟨some 12, some (9, true), none, .objs [], .call (.c (.fn (.func 43) [] [])) [(.v 10), (.v 11)]⟩,
  ⟨some 13, none, none, .objs [], .pk (.v 9) (.v 12) (.c (.sc (.bool false)))⟩,
  ⟨some 6, none, none, .objs [], .mv (.v 13)⟩])) <|
  .ret

theorem il17_eq : cFn Try.prog pol 17 = some ⟨14, il17c, [(6, none)]⟩ := by kernel_rfl

noncomputable def il32c : C :=
  .seq (.ops ([
  ⟨some 1, none, none, .objs [], .bx false (.v 0)⟩,
  ⟨some 2, none, none, .objs [], .mv (.c (.sc (.bool false)))⟩])) <|
  .seq (.ops ([
  ⟨some 3, none, none, .objs [], .fa 0 (.v 1)⟩,
  ⟨some 4, none, none, .objs [], .ld true 6 (.v 3)⟩,
  ⟨some 5, none, none, .objs [], .call (.c (.fn (.func 55) [] [])) [(.v 4)]⟩,
  ⟨some 6, none, none, .objs [], .mv (.v 5)⟩,
  ⟨some 7, some (6, true), none, .objs [], .fa 6 (.v 1)⟩,
  ⟨some 8, some (6, true), none, .objs [], .ld false 1 (.v 7)⟩,
  ⟨some 9, some (6, true), none, .objs [], .bin .geq false (.v 8) (.c (.sc (.int .i64 0)))⟩,
  ⟨some 10, none, none, .objs [], .pk (.v 6) (.v 9) (.c (.sc (.bool false)))⟩,
  ⟨some 11, none, none, .objs [], .mv (.v 10)⟩,
  ⟨some 12, some (11, true), none, .objs [], .fa 6 (.v 1)⟩,
  ⟨some 13, some (11, true), none, .objs [], .ld false 1 (.v 12)⟩,
  ⟨some 14, some (11, true), none, .objs [], .bin .leq false (.v 13) (.c (.sc (.int .i64 20)))⟩] ++ mkL [11, 14] ([
  ⟨some 15, none, none, .objs [], .pk (.v 11) (.v 14) (.c (.sc (.bool false)))⟩,
  ⟨some 2, none, none, .objs [], .mv (.v 15)⟩]))) <|
  .ret

theorem il32_eq : cFn Try.prog pol 32 = some ⟨16, il32c, [(2, none)]⟩ := by kernel_rfl

noncomputable def il35c : C :=
  .seq (.ops ([
  ⟨some 1, none, none, .objs [], .bx false (.v 0)⟩,
  ⟨some 2, none, none, .objs [], .mv (.c (.sc (.int .i64 0)))⟩])) <|
  .seq (.seq (.ops ([
  ⟨some 3, none, none, .objs [], .fa 0 (.v 1)⟩,
  ⟨some 4, none, none, .objs [], .ld true 2 (.v 3)⟩,
  ⟨some 5, none, none, .objs [], .call (.c (.fn (.func 56) [] [])) [(.v 4)]⟩,
  ⟨some 6, none, none, .objs [], .nt (.v 5)⟩,
  ⟨some 7, none, none, .objs [], .mv (.v 6)⟩,
  ⟨some 8, some (7, false), none, .objs [], .fa 3 (.v 1)⟩,
  ⟨some 9, some (7, false), none, .objs [], .ld true 2 (.v 8)⟩,
  ⟨some 10, some (7, false), none, .objs [], .call (.c (.fn (.func 56) [] [])) [(.v 9)]⟩,
  ⟨some 11, some (7, false), none, .objs [], .nt (.v 10)⟩,
  ⟨some 12, none, none, .objs [], .pk (.v 7) (.c (.sc (.bool true))) (.v 11)⟩,
  ⟨some 13, none, none, .objs [], .mv (.v 12)⟩,
  ⟨some 14, some (13, false), none, .objs [], .fa 2 (.v 1)⟩] ++ mkL [1, 13, 14] ([
  ⟨some 15, some (13, false), none, .objs [], .ld false 1 (.v 14)⟩,
  ⟨some 16, some (13, false), none, .objs [], .call (.c (.fn (.func 57) [] [])) [(.v 15), (.c (.sc (.int .i64 0))), (.c (.sc (.int .i64 1048576)))]⟩,
  ⟨some 17, some (13, false), none, .objs [], .nt (.v 16)⟩,
  ⟨some 18, none, none, .objs [], .pk (.v 13) (.c (.sc (.bool true))) (.v 17)⟩,
  ⟨some 19, none, none, .objs [], .mv (.v 18)⟩,
  ⟨some 20, some (19, false), none, .objs [], .fa 5 (.v 1)⟩,
  ⟨some 21, some (19, false), none, .objs [], .ld false 1 (.v 20)⟩,
  ⟨some 22, some (19, false), none, .objs [], .call (.c (.fn (.func 58) [] [])) [(.v 21)]⟩,
  ⟨some 23, some (19, false), none, .objs [], .nt (.v 22)⟩,
  ⟨some 24, none, none, .objs [], .pk (.v 19) (.c (.sc (.bool true))) (.v 23)⟩]))) <|
  .cond (.v 24) (.seq (.ops ([
    ⟨some 2, none, none, .objs [], .mv (.c (.sc (.int .i64 280)))⟩])) <|
    .ret) (.nop)) <|
  .seq (.ops ([
  ⟨some 2, none, none, .objs [], .mv (.c (.sc (.int .i64 0)))⟩])) <|
  .ret

theorem il35_eq : cFn Try.prog pol 35 = some ⟨25, il35c, [(2, none)]⟩ := by kernel_rfl

noncomputable def il36c : C :=
  .seq (.ops ([
  ⟨some 1, none, none, .objs [], .bx false (.v 0)⟩,
  ⟨some 2, none, none, .objs [], .mv (.c (.sc (.int .i64 0)))⟩])) <|
  .seq (.seq (.ops ([
  ⟨some 3, none, none, .objs [], .fa 6 (.v 1)⟩,
  ⟨some 4, none, none, .objs [], .ld false 1 (.v 3)⟩,
  ⟨some 5, none, none, .objs [], .call (.c (.fn (.func 57) [] [])) [(.v 4), (.c (.sc (.int .i64 0))), (.c (.sc (.int .i64 20)))]⟩,
  ⟨some 6, none, none, .objs [], .nt (.v 5)⟩])) <|
  .cond (.v 6) (.seq (.ops ([
    ⟨some 2, none, none, .objs [], .mv (.c (.sc (.int .i64 280)))⟩])) <|
    .ret) (.nop)) <|
  .seq (.ops ([
  ⟨some 7, none, none, .objs [], .fa 0 (.v 1)⟩,
  ⟨some 8, none, none, .objs [], .ld true 6 (.v 7)⟩,
  ⟨some 9, none, none, .objs [], .call (.c (.fn (.func 35) [] [])) [(.v 8)]⟩,
  ⟨some 2, none, none, .objs [], .mv (.v 9)⟩])) <|
  .ret

theorem il36_eq : cFn Try.prog pol 36 = some ⟨10, il36c, [(2, none)]⟩ := by kernel_rfl

noncomputable def il37l0b : C :=
  .seq (.ops ([
  ⟨some 17, none, none, .objs [], .bin .lss false (.v 16) (.c (.sc (.int .i64 6)))⟩])) <|
  .seq (.cond (.v 17) (.nop) (.exit 0)) <|
  .seq (.block 1 (.seq (.ops ([
    ⟨some 18, none, none, .objs [], .mv (.v 16)⟩,
    ⟨some 8, none, none, .objs [], .mv (.v 18)⟩])) <|
    .seq (.opsD [] ([
    ⟨some 19, none, none, .objs [], .mv (.v 8)⟩,
    ⟨some 20, none, none, .objs [], .iaA 6 1 (.v 5) (.v 19)⟩,
    ⟨some 21, none, none, .objs [(.v 20)], .ld false 1 (.v 20)⟩,
    ⟨some 22, none, none, .objs [], .mv (.v 8)⟩,
    ⟨some 23, none, none, .objs [], .iaA 6 1 (.v 6) (.v 22)⟩,
    ⟨some 24, none, none, .objs [(.v 23)], .ld false 1 (.v 23)⟩,
    ⟨some 25, none, none, .cal (.c (.fn (.func 60) [] [])) [(.v 21), (.v 24)], .call (.c (.fn (.func 60) [] [])) [(.v 21), (.v 24)]⟩,
    ⟨some 7, none, none, .objs [], .mv (.v 25)⟩])) <|
    .seq (.ops ([
    ⟨some 26, none, none, .objs [], .mv (.v 7)⟩,
    ⟨some 27, none, none, .objs [], .bin .neq false (.v 26) (.c (.sc (.int .i64 0)))⟩])) <|
    .cond (.v 27) (.exit 0) (.nop))) <|
  .ops ([
  ⟨some 28, none, none, .objs [], .bin .add false (.v 16) (.c (.sc (.int .i64 1)))⟩] ++ mkL [5, 6, 7, 28] ([
  ⟨some 16, none, none, .objs [], .mv (.v 28)⟩]))
noncomputable def il37l0 : C := il37l0b
theorem il37l0_go {P : Program} {pol : Pol} {K : Oracle} {I : Inl} {n : Nat} {f : FuncId} {R : Xit → FEnv → Heap → Prop} {e : FEnv} {h : Heap} : wc P pol K I n f il37l0 R e h = wc P pol K I n f il37l0b R e h := (fun x => x) rfl

noncomputable def il37c : C :=
  .seq (.ops ([
  ⟨some 2, none, none, .objs [], .bx false (.v 0)⟩,
  ⟨some 3, none, none, .objs [], .bx false (.v 1)⟩,
  ⟨some 4, none, none, .objs [], .mv (.c (.sc (.int .i64 0)))⟩])) <|
  .seq (.seq (.ops ([
  ⟨some 9, none, none, .objs [], .ld true 6 (.v 2)⟩,
  ⟨some 10, none, none, .objs [], .ld true 6 (.v 3)⟩,
  ⟨some 11, none, none, .objs [], .raw (opOf Try.prog 37 1 2)⟩])) <|
  .cond (.v 11) (.seq (.ops ([
    ⟨some 4, none, none, .objs [], .mv (.c (.sc (.int .i64 0)))⟩])) <|
    .ret) (.nop)) <|
  .seq (.opsD [(1, 2), (0, 4), (1, 4), (2, 4), (3, 4), (0, 5), (1, 5), (2, 5), (3, 5)] ([
  ⟨some 12, none, none, .objs [(.v 2)], .ld true 6 (.v 2)⟩,
  ⟨some 13, none, none, .cal (.c (.fn (.func 59) [] [])) [(.v 12)], .call (.c (.fn (.func 59) [] [])) [(.v 12)]⟩,
  ⟨some 14, none, none, .objs [(.v 3)], .ld true 6 (.v 3)⟩,
  ⟨some 15, none, none, .cal (.c (.fn (.func 59) [] [])) [(.v 14)], .call (.c (.fn (.func 59) [] [])) [(.v 14)]⟩,
  ⟨some 5, none, none, .objs [], .nw 6 (.agg [(.sc (.int .i64 0)), (.sc (.int .i64 0)), (.sc (.int .i64 0)), (.sc (.int .i64 0)), (.sc (.int .i64 0)), (.sc (.int .i64 0))])⟩,
  ⟨some 6, none, none, .objs [], .nw 6 (.agg [(.sc (.int .i64 0)), (.sc (.int .i64 0)), (.sc (.int .i64 0)), (.sc (.int .i64 0)), (.sc (.int .i64 0)), (.sc (.int .i64 0))])⟩,
  ⟨none, none, none, .objs [(.v 5)], .st 6 (.v 5) (.v 13)⟩] ++ mkL [5, 6, 15] ([
  ⟨none, none, none, .objs [(.v 6)], .st 6 (.v 6) (.v 15)⟩]))) <|
  .seq (.ops ([
  ⟨some 7, none, none, .objs [], .mv (.c (.sc (.int .i64 0)))⟩])) <|
  .seq (.nop) <|
  .seq (.seq (.ops ([
  ⟨some 16, none, none, .objs [], .mv (.c (.sc (.int .i64 0)))⟩])) <|
  .block 0 (.loop (some [5, 6, 7, 16]) il37l0)) <|
  .seq (.ops ([
  ⟨some 29, none, none, .objs [], .mv (.v 7)⟩,
  ⟨some 4, none, none, .objs [], .mv (.v 29)⟩])) <|
  .ret

theorem il37_eq : cFn Try.prog pol 37 = some ⟨30, il37c, [(4, none)]⟩ := by kernel_rfl
theorem raw37_1_2 {e : FEnv} {h : Heap} : iStep Try.prog pol 37 e h (.raw (opOf Try.prog 37 1 2)) = vOf h (binE Try.prog false 45 (.tmp 9) (.tmp 10) (Src.get e (.v 9)) (Src.get e (.v 10))) := raw_eql (x := (.tmp 9)) (y := (.tmp 10)) (s := 45) (by kernel_rfl)

noncomputable def il40c : C :=
  .seq (.ops ([
  ⟨some 1, none, none, .objs [], .bx false (.v 0)⟩,
  ⟨some 2, none, none, .objs [], .mv (.c (.sc (.bool false)))⟩])) <|
  .seq (.ops ([
  ⟨some 3, none, none, .objs [], .fa 0 (.v 1)⟩,
  ⟨some 4, none, none, .objs [], .ld false 1 (.v 3)⟩,
  ⟨some 5, none, none, .objs [], .bin .geq false (.v 4) (.c (.sc (.int .i64 0)))⟩,
  ⟨some 6, none, none, .objs [], .mv (.v 5)⟩,
  ⟨some 7, some (6, true), none, .objs [], .fa 0 (.v 1)⟩,
  ⟨some 8, some (6, true), none, .objs [], .ld false 1 (.v 7)⟩,
  ⟨some 9, some (6, true), none, .objs [], .bin .leq false (.v 8) (.c (.sc (.int .i64 15)))⟩,
  ⟨some 10, none, none, .objs [], .pk (.v 6) (.v 9) (.c (.sc (.bool false)))⟩,
  ⟨some 11, none, none, .objs [], .mv (.v 10)⟩,
  ⟨some 12, some (11, true), none, .objs [], .fa 1 (.v 1)⟩,
  ⟨some 13, some (11, true), none, .objs [], .ld false 1 (.v 12)⟩,
  ⟨some 14, some (11, true), none, .objs [], .bin .geq false (.v 13) (.c (.sc (.int .i64 0)))⟩] ++ mkL [1, 11, 14] ([
  ⟨some 15, none, none, .objs [], .pk (.v 11) (.v 14) (.c (.sc (.bool false)))⟩,
  ⟨some 16, none, none, .objs [], .mv (.v 15)⟩,
  ⟨some 17, some (16, true), none, .objs [], .fa 1 (.v 1)⟩,
  ⟨some 18, some (16, true), none, .objs [], .ld false 1 (.v 17)⟩,
  ⟨some 19, some (16, true), none, .objs [], .bin .leq false (.v 18) (.c (.sc (.int .i64 11)))⟩,
  ⟨some 20, none, none, .objs [], .pk (.v 16) (.v 19) (.c (.sc (.bool false)))⟩,
  ⟨some 2, none, none, .objs [], .mv (.v 20)⟩]))) <|
  .ret

theorem il40_eq : cFn Try.prog pol 40 = some ⟨21, il40c, [(2, none)]⟩ := by kernel_rfl

noncomputable def il41c : C :=
  .seq (.ops ([
  ⟨some 2, none, none, .objs [], .bx false (.v 0)⟩,
  ⟨some 4, none, none, .objs [], .nw 5 (.agg [(.sc (.int .i64 0)), (.sc (.int .i64 0)), (.sc (.slice none 0 0)), (.sc (.slice none 0 0)), (.sc (.slice none 0 0))])⟩])) <|
  .seq (.ops ([
  ⟨some 5, none, none, .objs [], .mv (.c (.fn (.func 61) [] []))⟩])) <|
  .seq (.opsD [(1, 5), (5, 7), (1, 9), (5, 11), (9, 11), (1, 13)] ([
  ⟨some 6, none, none, .objs [], .fa 0 (.v 2)⟩,
  ⟨some 7, none, none, .objs [(.v 6)], .ld true 2 (.v 6)⟩,
  ⟨some 8, none, none, .objs [], .fa 2 (.v 2)⟩,
  ⟨some 9, none, none, .objs [(.v 8)], .ld false 1 (.v 8)⟩,
  ⟨some 10, none, none, .objs [], .mv (.v 5)⟩,
  ⟨some 11, none, none, .cal (.c (.fn (.func 62) [] [])) [(.v 9), (.v 10)], .call (.c (.fn (.func 62) [] [])) [(.v 9), (.v 10)]⟩,
  ⟨some 12, none, none, .objs [], .fa 3 (.v 2)⟩,
  ⟨some 13, none, none, .objs [(.v 12)], .ld false 1 (.v 12)⟩,
  ⟨some 14, none, none, .objs [], .mv (.v 5)⟩,
  ⟨some 15, none, none, .cal (.c (.fn (.func 62) [] [])) [(.v 13), (.v 14)], .call (.c (.fn (.func 62) [] [])) [(.v 13), (.v 14)]⟩,
  ⟨some 16, none, none, .objs [], .fa 4 (.v 2)⟩] ++ mkL [1, 4, 7, 11, 15, 16] ([
  ⟨some 17, none, none, .objs [(.v 16)], .ld false 1 (.v 16)⟩,
  ⟨some 18, none, none, .objs [], .mv (.v 1)⟩,
  ⟨some 19, none, none, .cal (.c (.fn (.func 63) [] [])) [(.v 17), (.v 18)], .call (.c (.fn (.func 63) [] [])) [(.v 17), (.v 18)]⟩,
  ⟨some 20, none, none, .objs [], .bd [(.sc (.int .i64 0)), (.sc (.int .i64 0)), (.sc (.slice none 0 0)), (.sc (.slice none 0 0)), (.sc (.slice none 0 0))] [(0, 2, (.v 7)), (2, 1, (.v 11)), (3, 1, (.v 15)), (4, 1, (.v 19))]⟩,
  ⟨none, none, none, .objs [(.v 4)], .st 5 (.v 4) (.v 20)⟩]))) <|
  .ret

theorem il41_eq : cFn Try.prog pol 41 = some ⟨21, il41c, [(4, some (true, 5))]⟩ := by kernel_rfl

noncomputable def il42c : C :=
  .nop

theorem il42_eq : cFn Try.prog pol 42 = some ⟨2, il42c, []⟩ := by kernel_rfl

noncomputable def il43l0b : C :=
  .seq (.seq (.ops ([
  ⟨some 40, none, none, .objs [], .mv (.v 5)⟩,
  ⟨some 41, none, none, .objs [], .fa 2 (.v 2)⟩,
  ⟨some 42, none, none, .objs [], .ld false 1 (.v 41)⟩,
  ⟨some 43, none, none, .objs [], .lenS (.v 42)⟩,
  ⟨some 44, none, none, .objs [], .bin .lss false (.v 40) (.v 43)⟩])) <|
  .cond (.v 44) (.nop) (.exit 0)) <|
  .seq (.block 1 (.seq (.opsD [] ([
    ⟨some 47, none, none, .objs [], .fa 2 (.v 2)⟩,
    ⟨some 48, none, none, .objs [(.v 47)], .ld false 1 (.v 47)⟩,
    ⟨some 49, none, none, .objs [], .mv (.v 5)⟩,
    ⟨some 50, none, none, .objs [], .iaS 1 (.v 48) (.v 49)⟩,
    ⟨some 51, none, none, .objs [(.v 50)], .ld false 1 (.v 50)⟩,
    ⟨some 52, none, none, .objs [], .fa 2 (.v 3)⟩,
    ⟨some 53, none, none, .objs [(.v 52)], .ld false 1 (.v 52)⟩,
    ⟨some 54, none, none, .objs [], .mv (.v 5)⟩,
    ⟨some 55, none, none, .objs [], .iaS 1 (.v 53) (.v 54)⟩] ++ mkL [2, 3, 5, 51, 55] ([
    ⟨some 56, none, none, .objs [(.v 55)], .ld false 1 (.v 55)⟩,
    ⟨some 57, none, none, .objs [], .bin .neq false (.v 51) (.v 56)⟩]))) <|
    .cond (.v 57) (.seq (.ops ([
      ⟨some 4, none, none, .objs [], .mv (.c (.sc (.bool false)))⟩])) <|
      .ret) (.nop))) <|
  .ops ([
  ⟨some 45, none, none, .objs [], .mv (.v 5)⟩,
  ⟨some 46, none, none, .objs [], .bin .add false (.v 45) (.c (.sc (.int .i64 1)))⟩,
  ⟨some 5, none, none, .objs [], .mv (.v 46)⟩])
noncomputable def il43l0 : C := il43l0b
theorem il43l0_go {P : Program} {pol : Pol} {K : Oracle} {I : Inl} {n : Nat} {f : FuncId} {R : Xit → FEnv → Heap → Prop} {e : FEnv} {h : Heap} : wc P pol K I n f il43l0 R e h = wc P pol K I n f il43l0b R e h := (fun x => x) rfl

noncomputable def il43l1b : C :=
  .seq (.seq (.ops ([
  ⟨some 58, none, none, .objs [], .mv (.v 6)⟩,
  ⟨some 59, none, none, .objs [], .fa 3 (.v 2)⟩,
  ⟨some 60, none, none, .objs [], .ld false 1 (.v 59)⟩,
  ⟨some 61, none, none, .objs [], .lenS (.v 60)⟩,
  ⟨some 62, none, none, .objs [], .bin .lss false (.v 58) (.v 61)⟩])) <|
  .cond (.v 62) (.nop) (.exit 2)) <|
  .seq (.block 3 (.seq (.opsD [] ([
    ⟨some 65, none, none, .objs [], .fa 3 (.v 2)⟩,
    ⟨some 66, none, none, .objs [(.v 65)], .ld false 1 (.v 65)⟩,
    ⟨some 67, none, none, .objs [], .mv (.v 6)⟩,
    ⟨some 68, none, none, .objs [], .iaS 1 (.v 66) (.v 67)⟩,
    ⟨some 69, none, none, .objs [(.v 68)], .ld false 1 (.v 68)⟩,
    ⟨some 70, none, none, .objs [], .fa 3 (.v 3)⟩,
    ⟨some 71, none, none, .objs [(.v 70)], .ld false 1 (.v 70)⟩,
    ⟨some 72, none, none, .objs [], .mv (.v 6)⟩,
    ⟨some 73, none, none, .objs [], .iaS 1 (.v 71) (.v 72)⟩] ++ mkL [2, 3, 6, 69, 73] ([
    ⟨some 74, none, none, .objs [(.v 73)], .ld false 1 (.v 73)⟩,
    ⟨some 75, none, none, .objs [], .bin .neq false (.v 69) (.v 74)⟩]))) <|
    .cond (.v 75) (.seq (.ops ([
      ⟨some 4, none, none, .objs [], .mv (.c (.sc (.bool false)))⟩])) <|
      .ret) (.nop))) <|
  .ops ([
  ⟨some 63, none, none, .objs [], .mv (.v 6)⟩,
  ⟨some 64, none, none, .objs [], .bin .add false (.v 63) (.c (.sc (.int .i64 1)))⟩,
  ⟨some 6, none, none, .objs [], .mv (.v 64)⟩])
noncomputable def il43l1 : C := il43l1b
theorem il43l1_go {P : Program} {pol : Pol} {K : Oracle} {I : Inl} {n : Nat} {f : FuncId} {R : Xit → FEnv → Heap → Prop} {e : FEnv} {h : Heap} : wc P pol K I n f il43l1 R e h = wc P pol K I n f il43l1b R e h := (fun x => x) rfl

noncomputable def il43l2b : C :=
  .seq (.seq (.ops ([
  ⟨some 76, none, none, .objs [], .mv (.v 7)⟩,
  ⟨some 77, none, none, .objs [], .fa 4 (.v 2)⟩,
  ⟨some 78, none, none, .objs [], .ld false 1 (.v 77)⟩,
  ⟨some 79, none, none, .objs [], .lenS (.v 78)⟩,
  ⟨some 80, none, none, .objs [], .bin .lss false (.v 76) (.v 79)⟩])) <|
  .cond (.v 80) (.nop) (.exit 4)) <|
  .seq (.block 5 (.seq (.opsD [] ([
    ⟨some 83, none, none, .objs [], .fa 4 (.v 2)⟩,
    ⟨some 84, none, none, .objs [(.v 83)], .ld false 1 (.v 83)⟩,
    ⟨some 85, none, none, .objs [], .mv (.v 7)⟩,
    ⟨some 86, none, none, .objs [], .iaS 8 (.v 84) (.v 85)⟩,
    ⟨some 87, none, none, .objs [(.v 86)], .ld true 8 (.v 86)⟩,
    ⟨some 88, none, none, .objs [], .fa 4 (.v 3)⟩,
    ⟨some 89, none, none, .objs [(.v 88)], .ld false 1 (.v 88)⟩,
    ⟨some 90, none, none, .objs [], .mv (.v 7)⟩,
    ⟨some 91, none, none, .objs [], .iaS 8 (.v 89) (.v 90)⟩] ++ mkL [2, 3, 7, 87, 91] ([
    ⟨some 92, none, none, .objs [(.v 91)], .ld true 8 (.v 91)⟩,
    ⟨some 93, none, none, .objs [], .raw (opOf Try.prog 43 16 10)⟩]))) <|
    .cond (.v 93) (.seq (.ops ([
      ⟨some 4, none, none, .objs [], .mv (.c (.sc (.bool false)))⟩])) <|
      .ret) (.nop))) <|
  .ops ([
  ⟨some 81, none, none, .objs [], .mv (.v 7)⟩,
  ⟨some 82, none, none, .objs [], .bin .add false (.v 81) (.c (.sc (.int .i64 1)))⟩,
  ⟨some 7, none, none, .objs [], .mv (.v 82)⟩])
noncomputable def il43l2 : C := il43l2b
theorem il43l2_go {P : Program} {pol : Pol} {K : Oracle} {I : Inl} {n : Nat} {f : FuncId} {R : Xit → FEnv → Heap → Prop} {e : FEnv} {h : Heap} : wc P pol K I n f il43l2 R e h = wc P pol K I n f il43l2b R e h := (fun x => x) rfl

noncomputable def il43c : C :=
  .seq (.ops ([
  ⟨some 2, none, none, .objs [], .bx false (.v 0)⟩,
  ⟨some 3, none, none, .objs [], .bx false (.v 1)⟩,
  ⟨some 4, none, none, .objs [], .mv (.c (.sc (.bool false)))⟩])) <|
  .seq (.seq (.ops ([
  ⟨some 8, none, none, .objs [], .fa 0 (.v 2)⟩,
  ⟨some 9, none, none, .objs [], .ld true 2 (.v 8)⟩,
  ⟨some 10, none, none, .objs [], .fa 0 (.v 3)⟩,
  ⟨some 11, none, none, .objs [], .ld true 2 (.v 10)⟩,
  ⟨some 12, none, none, .objs [], .raw (opOf Try.prog 43 1 4)⟩,
  ⟨some 13, none, none, .objs [], .mv (.v 12)⟩,
  ⟨some 14, some (13, false), none, .objs [], .fa 2 (.v 2)⟩,
  ⟨some 15, some (13, false), none, .objs [], .ld false 1 (.v 14)⟩,
  ⟨some 16, some (13, false), none, .objs [], .lenS (.v 15)⟩,
  ⟨some 17, some (13, false), none, .objs [], .fa 2 (.v 3)⟩,
  ⟨some 18, some (13, false), none, .objs [], .ld false 1 (.v 17)⟩] ++ mkL [2, 3, 13, 16, 18] ([
  ⟨some 19, some (13, false), none, .objs [], .lenS (.v 18)⟩,
  ⟨some 20, some (13, false), none, .objs [], .bin .neq false (.v 16) (.v 19)⟩,
  ⟨some 21, none, none, .objs [], .pk (.v 13) (.c (.sc (.bool true))) (.v 20)⟩,
  ⟨some 22, none, none, .objs [], .mv (.v 21)⟩,
  ⟨some 23, some (22, false), none, .objs [], .fa 3 (.v 2)⟩,
  ⟨some 24, some (22, false), none, .objs [], .ld false 1 (.v 23)⟩,
  ⟨some 25, some (22, false), none, .objs [], .lenS (.v 24)⟩,
  ⟨some 26, some (22, false), none, .objs [], .fa 3 (.v 3)⟩,
  ⟨some 27, some (22, false), none, .objs [], .ld false 1 (.v 26)⟩,
  ⟨some 28, some (22, false), none, .objs [], .lenS (.v 27)⟩,
  ⟨some 29, some (22, false), none, .objs [], .bin .neq false (.v 25) (.v 28)⟩,
  ⟨some 30, none, none, .objs [], .pk (.v 22) (.c (.sc (.bool true))) (.v 29)⟩,
  ⟨some 31, none, none, .objs [], .mv (.v 30)⟩,
  ⟨some 32, some (31, false), none, .objs [], .fa 4 (.v 2)⟩] ++ mkL [2, 3, 31, 32] ([
  ⟨some 33, some (31, false), none, .objs [], .ld false 1 (.v 32)⟩,
  ⟨some 34, some (31, false), none, .objs [], .lenS (.v 33)⟩,
  ⟨some 35, some (31, false), none, .objs [], .fa 4 (.v 3)⟩,
  ⟨some 36, some (31, false), none, .objs [], .ld false 1 (.v 35)⟩,
  ⟨some 37, some (31, false), none, .objs [], .lenS (.v 36)⟩,
  ⟨some 38, some (31, false), none, .objs [], .bin .neq false (.v 34) (.v 37)⟩,
  ⟨some 39, none, none, .objs [], .pk (.v 31) (.c (.sc (.bool true))) (.v 38)⟩])))) <|
  .cond (.v 39) (.seq (.ops ([
    ⟨some 4, none, none, .objs [], .mv (.c (.sc (.bool false)))⟩])) <|
    .ret) (.nop)) <|
  .seq (.seq (.ops ([
  ⟨some 5, none, none, .objs [], .mv (.c (.sc (.int .i64 0)))⟩])) <|
  .block 0 (.loop (some [2, 3, 5]) il43l0)) <|
  .seq (.seq (.ops ([
  ⟨some 6, none, none, .objs [], .mv (.c (.sc (.int .i64 0)))⟩])) <|
  .block 2 (.loop (some [2, 3, 6]) il43l1)) <|
  .seq (.seq (.ops ([
  ⟨some 7, none, none, .objs [], .mv (.c (.sc (.int .i64 0)))⟩])) <|
  .block 4 (.loop (some [2, 3, 7]) il43l2)) <|
  .seq (.ops ([
  ⟨some 4, none, none, .objs [], .mv (.c (.sc (.bool true)))⟩])) <|
  .ret

theorem il43_eq : cFn Try.prog pol 43 = some ⟨94, il43c, [(4, none)]⟩ := by kernel_rfl
theorem raw43_1_4 {e : FEnv} {h : Heap} : iStep Try.prog pol 43 e h (.raw (opOf Try.prog 43 1 4)) = vOf h (binE Try.prog true 23 (.tmp 9) (.tmp 11) (Src.get e (.v 9)) (Src.get e (.v 11))) := raw_neq (x := (.tmp 9)) (y := (.tmp 11)) (s := 23) (by kernel_rfl)
theorem raw43_16_10 {e : FEnv} {h : Heap} : iStep Try.prog pol 43 e h (.raw (opOf Try.prog 43 16 10)) = vOf h (binE Try.prog true 51 (.tmp 87) (.tmp 92) (Src.get e (.v 87)) (Src.get e (.v 92))) := raw_neq (x := (.tmp 87)) (y := (.tmp 92)) (s := 51) (by kernel_rfl)

noncomputable def il50c : C :=
  .seq (.ops ([
  ⟨some 2, none, none, .objs [], .bx false (.v 0)⟩,
  ⟨some 3, none, none, .objs [], .bx false (.v 1)⟩,
  ⟨some 4, none, none, .objs [], .mv (.c (.sc (.bool false)))⟩])) <|
  .seq (.seq (.ops ([
  ⟨some 5, none, none, .objs [], .fa 0 (.v 2)⟩,
  ⟨some 6, none, none, .objs [], .fa 0 (.v 5)⟩,
  ⟨some 7, none, none, .objs [], .ld false 1 (.v 6)⟩,
  ⟨some 8, none, none, .objs [], .fa 0 (.v 3)⟩,
  ⟨some 9, none, none, .objs [], .fa 0 (.v 8)⟩,
  ⟨some 10, none, none, .objs [], .ld false 1 (.v 9)⟩,
  ⟨some 11, none, none, .objs [], .bin .neq false (.v 7) (.v 10)⟩])) <|
  .cond (.v 11) (.seq (.ops ([
    ⟨some 12, none, none, .objs [], .fa 0 (.v 2)⟩,
    ⟨some 13, none, none, .objs [], .fa 0 (.v 12)⟩,
    ⟨some 14, none, none, .objs [], .ld false 1 (.v 13)⟩,
    ⟨some 15, none, none, .objs [], .fa 0 (.v 3)⟩] ++ mkL [14, 15] ([
    ⟨some 16, none, none, .objs [], .fa 0 (.v 15)⟩,
    ⟨some 17, none, none, .objs [], .ld false 1 (.v 16)⟩,
    ⟨some 18, none, none, .objs [], .bin .lss false (.v 14) (.v 17)⟩,
    ⟨some 4, none, none, .objs [], .mv (.v 18)⟩]))) <|
    .ret) (.nop)) <|
  .seq (.seq (.ops ([
  ⟨some 19, none, none, .objs [], .fa 0 (.v 2)⟩,
  ⟨some 20, none, none, .objs [], .fa 1 (.v 19)⟩,
  ⟨some 21, none, none, .objs [], .ld false 1 (.v 20)⟩,
  ⟨some 22, none, none, .objs [], .fa 0 (.v 3)⟩] ++ mkL [2, 3, 21, 22] ([
  ⟨some 23, none, none, .objs [], .fa 1 (.v 22)⟩,
  ⟨some 24, none, none, .objs [], .ld false 1 (.v 23)⟩,
  ⟨some 25, none, none, .objs [], .bin .neq false (.v 21) (.v 24)⟩]))) <|
  .cond (.v 25) (.seq (.ops ([
    ⟨some 26, none, none, .objs [], .fa 0 (.v 2)⟩,
    ⟨some 27, none, none, .objs [], .fa 1 (.v 26)⟩,
    ⟨some 28, none, none, .objs [], .ld false 1 (.v 27)⟩,
    ⟨some 29, none, none, .objs [], .fa 0 (.v 3)⟩,
    ⟨some 30, none, none, .objs [], .fa 1 (.v 29)⟩,
    ⟨some 31, none, none, .objs [], .ld false 1 (.v 30)⟩,
    ⟨some 32, none, none, .objs [], .bin .lss false (.v 28) (.v 31)⟩,
    ⟨some 4, none, none, .objs [], .mv (.v 32)⟩])) <|
    .ret) (.nop)) <|
  .seq (.seq (.ops ([
  ⟨some 33, none, none, .objs [], .fa 2 (.v 2)⟩,
  ⟨some 34, none, none, .objs [], .ld false 1 (.v 33)⟩,
  ⟨some 35, none, none, .objs [], .fa 2 (.v 3)⟩] ++ mkL [2, 3, 34, 35] ([
  ⟨some 36, none, none, .objs [], .ld false 1 (.v 35)⟩,
  ⟨some 37, none, none, .objs [], .bin .neq false (.v 34) (.v 36)⟩]))) <|
  .cond (.v 37) (.seq (.ops ([
    ⟨some 38, none, none, .objs [], .fa 2 (.v 2)⟩,
    ⟨some 39, none, none, .objs [], .ld false 1 (.v 38)⟩,
    ⟨some 40, none, none, .objs [], .fa 2 (.v 3)⟩,
    ⟨some 41, none, none, .objs [], .ld false 1 (.v 40)⟩,
    ⟨some 42, none, none, .objs [], .bin .lss false (.v 39) (.v 41)⟩,
    ⟨some 4, none, none, .objs [], .mv (.v 42)⟩])) <|
    .ret) (.nop)) <|
  .seq (.seq (.ops ([
  ⟨some 43, none, none, .objs [], .fa 3 (.v 2)⟩,
  ⟨some 44, none, none, .objs [], .fa 0 (.v 43)⟩,
  ⟨some 45, none, none, .objs [], .ld false 1 (.v 44)⟩,
  ⟨some 46, none, none, .objs [], .fa 3 (.v 3)⟩,
  ⟨some 47, none, none, .objs [], .fa 0 (.v 46)⟩,
  ⟨some 48, none, none, .objs [], .ld false 1 (.v 47)⟩] ++ mkL [2, 3, 45, 48] ([
  ⟨some 49, none, none, .objs [], .bin .neq false (.v 45) (.v 48)⟩]))) <|
  .cond (.v 49) (.seq (.ops ([
    ⟨some 50, none, none, .objs [], .fa 3 (.v 2)⟩,
    ⟨some 51, none, none, .objs [], .fa 0 (.v 50)⟩,
    ⟨some 52, none, none, .objs [], .ld false 1 (.v 51)⟩,
    ⟨some 53, none, none, .objs [], .fa 3 (.v 3)⟩,
    ⟨some 54, none, none, .objs [], .fa 0 (.v 53)⟩,
    ⟨some 55, none, none, .objs [], .ld false 1 (.v 54)⟩,
    ⟨some 56, none, none, .objs [], .bin .lss false (.v 52) (.v 55)⟩,
    ⟨some 4, none, none, .objs [], .mv (.v 56)⟩])) <|
    .ret) (.nop)) <|
  .seq (.seq (.ops ([
  ⟨some 57, none, none, .objs [], .fa 3 (.v 2)⟩,
  ⟨some 58, none, none, .objs [], .fa 1 (.v 57)⟩,
  ⟨some 59, none, none, .objs [], .ld false 1 (.v 58)⟩,
  ⟨some 60, none, none, .objs [], .fa 3 (.v 3)⟩,
  ⟨some 61, none, none, .objs [], .fa 1 (.v 60)⟩] ++ mkL [2, 3, 59, 61] ([
  ⟨some 62, none, none, .objs [], .ld false 1 (.v 61)⟩,
  ⟨some 63, none, none, .objs [], .bin .neq false (.v 59) (.v 62)⟩]))) <|
  .cond (.v 63) (.seq (.ops ([
    ⟨some 64, none, none, .objs [], .fa 3 (.v 2)⟩,
    ⟨some 65, none, none, .objs [], .fa 1 (.v 64)⟩,
    ⟨some 66, none, none, .objs [], .ld false 1 (.v 65)⟩,
    ⟨some 67, none, none, .objs [], .fa 3 (.v 3)⟩,
    ⟨some 68, none, none, .objs [], .fa 1 (.v 67)⟩,
    ⟨some 69, none, none, .objs [], .ld false 1 (.v 68)⟩,
    ⟨some 70, none, none, .objs [], .bin .lss false (.v 66) (.v 69)⟩,
    ⟨some 4, none, none, .objs [], .mv (.v 70)⟩])) <|
    .ret) (.nop)) <|
  .seq (.ops ([
  ⟨some 71, none, none, .objs [], .fa 5 (.v 2)⟩,
  ⟨some 72, none, none, .objs [], .ld false 1 (.v 71)⟩,
  ⟨some 73, none, none, .objs [], .fa 5 (.v 3)⟩,
  ⟨some 74, none, none, .objs [], .ld false 1 (.v 73)⟩] ++ mkL [72, 74] ([
  ⟨some 75, none, none, .objs [], .bin .lss false (.v 72) (.v 74)⟩,
  ⟨some 4, none, none, .objs [], .mv (.v 75)⟩]))) <|
  .ret

theorem il50_eq : cFn Try.prog pol 50 = some ⟨76, il50c, [(4, none)]⟩ := by kernel_rfl

noncomputable def il55c : C :=
  .seq (.ops ([
  ⟨some 1, none, none, .objs [], .bx false (.v 0)⟩,
  ⟨some 2, none, none, .objs [], .mv (.c (.sc (.bool false)))⟩])) <|
  .seq (.ops ([
  ⟨some 3, none, none, .objs [], .fa 0 (.v 1)⟩,
  ⟨some 4, none, none, .objs [], .ld true 2 (.v 3)⟩,
  ⟨some 5, none, none, .objs [], .call (.c (.fn (.func 40) [] [])) [(.v 4)]⟩,
  ⟨some 6, none, none, .objs [], .mv (.v 5)⟩,
  ⟨some 7, some (6, true), none, .objs [], .fa 3 (.v 1)⟩,
  ⟨some 8, some (6, true), none, .objs [], .ld true 2 (.v 7)⟩,
  ⟨some 9, some (6, true), none, .objs [], .call (.c (.fn (.func 40) [] [])) [(.v 8)]⟩,
  ⟨some 10, none, none, .objs [], .pk (.v 6) (.v 9) (.c (.sc (.bool false)))⟩,
  ⟨some 11, none, none, .objs [], .mv (.v 10)⟩,
  ⟨some 12, some (11, true), none, .objs [], .fa 2 (.v 1)⟩,
  ⟨some 13, some (11, true), none, .objs [], .ld false 1 (.v 12)⟩,
  ⟨some 14, some (11, true), none, .objs [], .bin .geq false (.v 13) (.c (.sc (.int .i64 0)))⟩] ++ mkL [1, 11, 14] ([
  ⟨some 15, none, none, .objs [], .pk (.v 11) (.v 14) (.c (.sc (.bool false)))⟩,
  ⟨some 16, none, none, .objs [], .mv (.v 15)⟩,
  ⟨some 17, some (16, true), none, .objs [], .fa 2 (.v 1)⟩,
  ⟨some 18, some (16, true), none, .objs [], .ld false 1 (.v 17)⟩,
  ⟨some 19, some (16, true), none, .objs [], .bin .leq false (.v 18) (.c (.sc (.int .i64 1048576)))⟩,
  ⟨some 20, none, none, .objs [], .pk (.v 16) (.v 19) (.c (.sc (.bool false)))⟩,
  ⟨some 21, none, none, .objs [], .mv (.v 20)⟩,
  ⟨some 22, some (21, true), none, .objs [], .fa 5 (.v 1)⟩,
  ⟨some 23, some (21, true), none, .objs [], .ld false 1 (.v 22)⟩,
  ⟨some 24, some (21, true), none, .objs [], .bin .geq false (.v 23) (.c (.sc (.int .i64 0)))⟩,
  ⟨some 25, none, none, .objs [], .pk (.v 21) (.v 24) (.c (.sc (.bool false)))⟩,
  ⟨some 26, none, none, .objs [], .mv (.v 25)⟩,
  ⟨some 27, some (26, true), none, .objs [], .fa 5 (.v 1)⟩,
  ⟨some 28, some (26, true), none, .objs [], .ld false 1 (.v 27)⟩] ++ mkL [26, 28] ([
  ⟨some 29, some (26, true), none, .objs [], .bin .leq false (.v 28) (.c (.sc (.int .i64 47)))⟩,
  ⟨some 30, none, none, .objs [], .pk (.v 26) (.v 29) (.c (.sc (.bool false)))⟩,
  ⟨some 2, none, none, .objs [], .mv (.v 30)⟩])))) <|
  .ret

theorem il55_eq : cFn Try.prog pol 55 = some ⟨31, il55c, [(2, none)]⟩ := by kernel_rfl

noncomputable def il56c : C :=
  .seq (.ops ([
  ⟨some 1, none, none, .objs [], .bx false (.v 0)⟩,
  ⟨some 2, none, none, .objs [], .mv (.c (.sc (.bool false)))⟩])) <|
  .seq (.ops ([
  ⟨some 3, none, none, .objs [], .fa 0 (.v 1)⟩,
  ⟨some 4, none, none, .objs [], .ld false 1 (.v 3)⟩,
  ⟨some 5, none, none, .objs [], .call (.c (.fn (.func 57) [] [])) [(.v 4), (.c (.sc (.int .i64 0))), (.c (.sc (.int .i64 15)))]⟩,
  ⟨some 6, none, none, .objs [], .mv (.v 5)⟩,
  ⟨some 7, some (6, true), none, .objs [], .fa 1 (.v 1)⟩,
  ⟨some 8, some (6, true), none, .objs [], .ld false 1 (.v 7)⟩,
  ⟨some 9, some (6, true), none, .objs [], .call (.c (.fn (.func 57) [] [])) [(.v 8), (.c (.sc (.int .i64 0))), (.c (.sc (.int .i64 11)))]⟩,
  ⟨some 10, none, none, .objs [], .pk (.v 6) (.v 9) (.c (.sc (.bool false)))⟩,
  ⟨some 2, none, none, .objs [], .mv (.v 10)⟩])) <|
  .ret

theorem il56_eq : cFn Try.prog pol 56 = some ⟨11, il56c, [(2, none)]⟩ := by kernel_rfl

noncomputable def il57c : C :=
  .seq (.ops ([
  ⟨some 6, none, none, .objs [], .mv (.c (.sc (.bool false)))⟩])) <|
  .seq (.ops ([
  ⟨some 7, none, none, .objs [], .mv (.v 0)⟩,
  ⟨some 8, none, none, .objs [], .mv (.v 1)⟩,
  ⟨some 9, none, none, .objs [], .bin .geq false (.v 7) (.v 8)⟩,
  ⟨some 10, none, none, .objs [], .mv (.v 9)⟩,
  ⟨some 11, some (10, true), none, .objs [], .mv (.v 0)⟩,
  ⟨some 12, some (10, true), none, .objs [], .mv (.v 2)⟩,
  ⟨some 13, some (10, true), none, .objs [], .bin .leq false (.v 11) (.v 12)⟩,
  ⟨some 14, none, none, .objs [], .pk (.v 10) (.v 13) (.c (.sc (.bool false)))⟩,
  ⟨some 6, none, none, .objs [], .mv (.v 14)⟩])) <|
  .ret

theorem il57_eq : cFn Try.prog pol 57 = some ⟨15, il57c, [(6, none)]⟩ := by kernel_rfl

noncomputable def il58c : C :=
  .seq (.ops ([
  ⟨some 2, none, none, .objs [], .mv (.c (.sc (.bool false)))⟩])) <|
  .seq (.ops ([
  ⟨some 3, none, none, .objs [], .mv (.v 0)⟩,
  ⟨some 4, none, none, .objs [], .call (.c (.fn (.func 57) [] [])) [(.v 3), (.c (.sc (.int .i64 0))), (.c (.sc (.int .i64 47)))]⟩,
  ⟨some 2, none, none, .objs [], .mv (.v 4)⟩])) <|
  .ret

theorem il58_eq : cFn Try.prog pol 58 = some ⟨5, il58c, [(2, none)]⟩ := by kernel_rfl

noncomputable def il59c : C :=
  .seq (.ops ([
  ⟨some 1, none, none, .objs [], .bx false (.v 0)⟩,
  ⟨some 2, none, none, .objs [], .nw 6 (.agg [(.sc (.int .i64 0)), (.sc (.int .i64 0)), (.sc (.int .i64 0)), (.sc (.int .i64 0)), (.sc (.int .i64 0)), (.sc (.int .i64 0))])⟩])) <|
  .seq (.ops ([
  ⟨some 3, none, none, .objs [], .fa 0 (.v 1)⟩,
  ⟨some 4, none, none, .objs [], .fa 0 (.v 3)⟩,
  ⟨some 5, none, none, .objs [], .ld false 1 (.v 4)⟩,
  ⟨some 6, none, none, .objs [], .fa 0 (.v 1)⟩,
  ⟨some 7, none, none, .objs [], .fa 1 (.v 6)⟩,
  ⟨some 8, none, none, .objs [], .ld false 1 (.v 7)⟩,
  ⟨some 9, none, none, .objs [], .fa 2 (.v 1)⟩,
  ⟨some 10, none, none, .objs [], .ld false 1 (.v 9)⟩,
  ⟨some 11, none, none, .objs [], .fa 3 (.v 1)⟩,
  ⟨some 12, none, none, .objs [], .fa 0 (.v 11)⟩,
  ⟨some 13, none, none, .objs [], .ld false 1 (.v 12)⟩,
  ⟨some 14, none, none, .objs [], .fa 3 (.v 1)⟩] ++ mkL [1, 2, 5, 8, 10, 13, 14] ([
  ⟨some 15, none, none, .objs [], .fa 1 (.v 14)⟩,
  ⟨some 16, none, none, .objs [], .ld false 1 (.v 15)⟩,
  ⟨some 17, none, none, .objs [], .fa 5 (.v 1)⟩,
  ⟨some 18, none, none, .objs [], .ld false 1 (.v 17)⟩,
  ⟨some 19, none, none, .objs [], .bd [(.sc (.int .i64 0)), (.sc (.int .i64 0)), (.sc (.int .i64 0)), (.sc (.int .i64 0)), (.sc (.int .i64 0)), (.sc (.int .i64 0))] [(0, 1, (.v 5)), (1, 1, (.v 8)), (2, 1, (.v 10)), (3, 1, (.v 13)), (4, 1, (.v 16)), (5, 1, (.v 18))]⟩,
  ⟨none, none, none, .objs [], .st 6 (.v 2) (.v 19)⟩]))) <|
  .ret

theorem il59_eq : cFn Try.prog pol 59 = some ⟨20, il59c, [(2, some (true, 6))]⟩ := by kernel_rfl

noncomputable def il60c : C :=
  .seq (.ops ([
  ⟨some 4, none, none, .objs [], .mv (.c (.sc (.int .i64 0)))⟩])) <|
  .seq (.ops ([
  ⟨some 7, none, none, .objs [], .mv (.v 0)⟩,
  ⟨some 8, none, none, .objs [], .call (.c (.fn (.func 66) [] [])) [(.v 7)]⟩,
  ⟨some 5, none, none, .objs [], .mv (.v 8)⟩])) <|
  .seq (.ops ([
  ⟨some 9, none, none, .objs [], .mv (.v 1)⟩,
  ⟨some 10, none, none, .objs [], .call (.c (.fn (.func 66) [] [])) [(.v 9)]⟩,
  ⟨some 6, none, none, .objs [], .mv (.v 10)⟩])) <|
  .seq (.seq (.ops ([
  ⟨some 11, none, none, .objs [], .mv (.v 5)⟩])) <|
  .cond (.v 11) (.seq (.seq (.ops ([
    ⟨some 12, none, none, .objs [], .mv (.v 6)⟩])) <|
    .cond (.v 12) (.seq (.ops ([
      ⟨some 4, none, none, .objs [], .mv (.c (.sc (.int .i64 0)))⟩])) <|
      .ret) (.nop)) <|
    .seq (.ops ([
    ⟨some 4, none, none, .objs [], .mv (.c (.sc (.int .i64 (-1))))⟩])) <|
    .ret) (.nop)) <|
  .seq (.seq (.ops ([
  ⟨some 13, none, none, .objs [], .mv (.v 6)⟩])) <|
  .cond (.v 13) (.seq (.ops ([
    ⟨some 4, none, none, .objs [], .mv (.c (.sc (.int .i64 1)))⟩])) <|
    .ret) (.nop)) <|
  .seq (.seq (.ops ([
  ⟨some 14, none, none, .objs [], .mv (.v 0)⟩] ++ mkL [0, 1, 14] ([
  ⟨some 15, none, none, .objs [], .mv (.v 1)⟩,
  ⟨some 16, none, none, .objs [], .bin .lss false (.v 14) (.v 15)⟩]))) <|
  .cond (.v 16) (.seq (.ops ([
    ⟨some 4, none, none, .objs [], .mv (.c (.sc (.int .i64 (-1))))⟩])) <|
    .ret) (.nop)) <|
  .seq (.seq (.ops ([
  ⟨some 17, none, none, .objs [], .mv (.v 0)⟩,
  ⟨some 18, none, none, .objs [], .mv (.v 1)⟩,
  ⟨some 19, none, none, .objs [], .bin .gtr false (.v 17) (.v 18)⟩])) <|
  .cond (.v 19) (.seq (.ops ([
    ⟨some 4, none, none, .objs [], .mv (.c (.sc (.int .i64 1)))⟩])) <|
    .ret) (.nop)) <|
  .seq (.ops ([
  ⟨some 4, none, none, .objs [], .mv (.c (.sc (.int .i64 0)))⟩])) <|
  .ret

theorem il60_eq : cFn Try.prog pol 60 = some ⟨20, il60c, [(4, none)]⟩ := by kernel_rfl

noncomputable def il61c : C :=
  .nop

theorem il61_eq : cFn Try.prog pol 61 = some ⟨2, il61c, []⟩ := by kernel_rfl

noncomputable def il62c : C :=
  .seq (.ops ([
  ⟨some 4, none, none, .objs [], .mv (.c (.sc (.slice none 0 0)))⟩])) <|
  .seq (.ops ([
  ⟨some 6, none, none, .objs [], .mv (.v 0)⟩,
  ⟨some 7, none, none, .objs [], .lenS (.v 6)⟩,
  ⟨some 8, none, none, .objs [], .raw (opOf Try.prog 62 1 2)⟩,
  ⟨some 5, none, none, .objs [], .mv (.v 8)⟩])) <|
  .seq (.ops ([
  ⟨some 9, none, none, .objs [], .mv (.v 5)⟩,
  ⟨some 10, none, none, .objs [], .mv (.v 0)⟩,
  ⟨some 11, none, none, .objs [], .raw (opOf Try.prog 62 2 2)⟩])) <|
  .seq (.ops ([
  ⟨some 12, none, none, .objs [], .mv (.v 1)⟩,
  ⟨some 13, none, none, .objs [], .mv (.v 5)⟩,
  ⟨some 14, none, none, .objs [], .call (.v 12) [(.v 13)]⟩])) <|
  .seq (.ops ([
  ⟨some 15, none, none, .objs [], .mv (.v 5)⟩,
  ⟨some 4, none, none, .objs [], .mv (.v 15)⟩])) <|
  .ret

theorem il62_eq : cFn Try.prog pol 62 = some ⟨16, il62c, [(4, none)]⟩ := by kernel_rfl
theorem raw62_1_2 {e : FEnv} {h : Heap} : iStep Try.prog pol 62 e h (.raw (opOf Try.prog 62 1 2)) = mkSl 1 8 (.sc (.int .i64 0)) h (asNat (Src.get e (.v 7))) (asNat (Src.get e (.v 7))) := raw_makeSlice (t := 24) (l := (.tmp 7)) (c := (.tmp 7)) (elem := 3) (by kernel_rfl) (by kernel_rfl) (by kernel_rfl) (by kernel_rfl) (by kernel_rfl) (by kernel_rfl)
theorem raw62_2_2 {e : FEnv} {h : Heap} : iStep Try.prog pol 62 e h (.raw (opOf Try.prog 62 2 2)) = cpA 1 (Src.get e (.v 9)) h (elemsOf h 1 (Src.get e (.v 10))) := raw_copy (t := 24) (ts := [24]) (x := (.tmp 9)) (y := (.tmp 10)) (elem := 3) (by kernel_rfl) (by kernel_rfl) (by kernel_rfl) (by kernel_rfl)

noncomputable def il63c : C :=
  .seq (.ops ([
  ⟨some 4, none, none, .objs [], .mv (.c (.sc (.slice none 0 0)))⟩])) <|
  .seq (.ops ([
  ⟨some 6, none, none, .objs [], .mv (.v 0)⟩,
  ⟨some 7, none, none, .objs [], .lenS (.v 6)⟩,
  ⟨some 8, none, none, .objs [], .raw (opOf Try.prog 63 1 2)⟩,
  ⟨some 5, none, none, .objs [], .mv (.v 8)⟩])) <|
  .seq (.ops ([
  ⟨some 9, none, none, .objs [], .mv (.v 5)⟩,
  ⟨some 10, none, none, .objs [], .mv (.v 0)⟩,
  ⟨some 11, none, none, .objs [], .raw (opOf Try.prog 63 2 2)⟩])) <|
  .seq (.ops ([
  ⟨some 12, none, none, .objs [], .mv (.v 1)⟩,
  ⟨some 13, none, none, .objs [], .mv (.v 5)⟩,
  ⟨some 14, none, none, .objs [], .call (.v 12) [(.v 13)]⟩])) <|
  .seq (.ops ([
  ⟨some 15, none, none, .objs [], .mv (.v 5)⟩,
  ⟨some 4, none, none, .objs [], .mv (.v 15)⟩])) <|
  .ret

theorem il63_eq : cFn Try.prog pol 63 = some ⟨16, il63c, [(4, none)]⟩ := by kernel_rfl
theorem raw63_1_2 {e : FEnv} {h : Heap} : iStep Try.prog pol 63 e h (.raw (opOf Try.prog 63 1 2)) = mkSl 8 64 (.agg [(.sc (.bool false)), (.sc (.int .i64 0)), (.sc (.int .i64 0)), (.sc (.int .i64 0)), (.sc (.int .i64 0)), (.sc (.int .i64 0)), (.sc (.int .i64 0)), (.sc (.int .i64 0))]) h (asNat (Src.get e (.v 7))) (asNat (Src.get e (.v 7))) := raw_makeSlice (t := 25) (l := (.tmp 7)) (c := (.tmp 7)) (elem := 51) (by kernel_rfl) (by kernel_rfl) (by kernel_rfl) (by kernel_rfl) (by kernel_rfl) (by kernel_rfl)
theorem raw63_2_2 {e : FEnv} {h : Heap} : iStep Try.prog pol 63 e h (.raw (opOf Try.prog 63 2 2)) = cpA 8 (Src.get e (.v 9)) h (elemsOf h 8 (Src.get e (.v 10))) := raw_copy (t := 25) (ts := [25]) (x := (.tmp 9)) (y := (.tmp 10)) (elem := 51) (by kernel_rfl) (by kernel_rfl) (by kernel_rfl) (by kernel_rfl)

noncomputable def il66c : C :=
  .seq (.ops ([
  ⟨some 2, none, none, .objs [], .mv (.c (.sc (.bool false)))⟩])) <|
  .seq (.ops ([
  ⟨some 3, none, none, .objs [], .mv (.v 0)⟩,
  ⟨some 4, none, none, .objs [], .mv (.v 0)⟩,
  ⟨some 5, none, none, .objs [], .bin .neq false (.v 3) (.v 4)⟩,
  ⟨some 2, none, none, .objs [], .mv (.v 5)⟩])) <|
  .ret

theorem il66_eq : cFn Try.prog pol 66 = some ⟨6, il66c, [(2, none)]⟩ := by kernel_rfl

attribute [go_sem] eqT23
attribute [go_sem] eqT51
attribute [go_sem] eqT45
attribute [go_sem] raw3_9_9
attribute [go_sem] raw13_10_15
attribute [go_sem] raw14_14_15
attribute [go_sem] raw15_1_5
attribute [go_sem] raw37_1_2
attribute [go_sem] raw43_1_4
attribute [go_sem] raw43_16_10
attribute [go_sem] raw62_1_2
attribute [go_sem] raw62_2_2
attribute [go_sem] raw63_1_2
attribute [go_sem] raw63_2_2
end Go.Proofs.Ytcpaijajddaidaa
