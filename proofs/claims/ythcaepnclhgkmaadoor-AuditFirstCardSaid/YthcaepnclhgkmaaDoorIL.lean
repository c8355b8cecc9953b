/- Functions of the program, worked out ahead (printed by a program; each is checked against the program by the kernel). -/
import Derived.Test.YthcaepnclhgkmaaDoorILBase
set_option linter.unusedSimpArgs false
namespace Go.Proofs.YthcaepnclhgkmaaDoor
open Go Go.Abs
set_option maxRecDepth 100000
set_option linter.unusedVariables false

theorem eqT34 {a0 b0 : Int} {a1 b1 : Int} {a2 b2 : Int} {a3 b3 : Int} : aEq Tryd.prog 34 (.t (.agg [.sc (.int .i64 a0), .sc (.int .i64 a1), .sc (.int .i64 a2), .sc (.int .i64 a3)])) (.t (.agg [.sc (.int .i64 b0), .sc (.int .i64 b1), .sc (.int .i64 b2), .sc (.int .i64 b3)])) = some (decide (a0 = b0 ∧ a1 = b1 ∧ a2 = b2 ∧ a3 = b3)) :=
  (show aEq Tryd.prog 34 (.t (.agg [.sc (.int .i64 a0), .sc (.int .i64 a1), .sc (.int .i64 a2), .sc (.int .i64 a3)])) (.t (.agg [.sc (.int .i64 b0), .sc (.int .i64 b1), .sc (.int .i64 b2), .sc (.int .i64 b3)])) = some ((a0 == b0) && ((a1 == b1) && ((a2 == b2) && ((a3 == b3) && true)))) by kernel_rfl).trans (by congr 1; rw [Bool.eq_iff_iff]; simp [and_assoc])

theorem eqT22 : isSliceT Tryd.prog 22 = true := by kernel_rfl

theorem eqT23 : isSliceT Tryd.prog 23 = true := by kernel_rfl

noncomputable def il6c : C :=
  .seq (.ops ([
  ⟨some 6, none, none, .objs [], .mv (.c (.sc (.bool false)))⟩])) <|
  .seq (.seq (.ops ([
  ⟨some 20, none, none, .objs [], .call (.c (.fn (.func 9) [] [])) []⟩,
  ⟨some 21, none, none, .objs [], .nt (.v 20)⟩])) <|
  .cond (.v 21) (.seq (.ops ([
    ⟨some 6, none, none, .objs [], .mv (.c (.sc (.bool false)))⟩])) <|
    .ret) (.nop)) <|
  .seq (.opsD [(1, 4)] ([
  ⟨some 22, none, none, .objs [], .mv (.v 0)⟩,
  ⟨some 23, none, none, .cal (.c (.fn (.func 10) [] [])) [(.v 22)], .call (.c (.fn (.func 10) [] [])) [(.v 22)]⟩,
  ⟨some 24, none, none, .objs [], .mv (.v 1)⟩,
  ⟨some 25, none, none, .objs [], .mv (.v 1)⟩,
  ⟨some 26, none, none, .objs [(.v 25)], .lenS (.v 25)⟩,
  ⟨some 27, none, none, .objs [], .mnx false (.v 26) (.c (.sc (.int .i64 100)))⟩,
  ⟨some 28, none, none, .objs [], .sl 5 (.v 24) none (some (.v 27)) none⟩,
  ⟨some 29, none, none, .cal (.c (.fn (.func 11) [] [])) [(.v 28)], .call (.c (.fn (.func 11) [] [])) [(.v 28)]⟩,
  ⟨some 7, none, none, .objs [], .mv (.v 23)⟩,
  ⟨some 8, none, none, .objs [], .mv (.v 29)⟩])) <| mkC [1, 2, 7, 8] <|
  .seq (.ops ([
  ⟨some 31, none, none, .objs [], .mv (.v 7)⟩,
  ⟨some 32, none, none, .objs [], .mv (.v 8)⟩,
  ⟨some 33, none, none, .objs [], .call (.c (.fn (.func 12) [] [])) [(.v 31), (.v 32), (.c (.sc (.int .i64 1099511627776)))]⟩,
  ⟨some 30, none, none, .objs [], .mv (.v 33)⟩,
  ⟨some 34, none, none, .objs [], .ex (.v 30) 0⟩,
  ⟨some 35, none, none, .objs [], .ex (.v 30) 1⟩,
  ⟨some 9, none, none, .objs [], .nw 4 (.agg [(.sc (.int .i64 0)), (.sc (.int .i64 0)), (.sc (.int .i64 0)), (.sc (.int .i64 0))])⟩,
  ⟨none, none, none, .objs [], .st 4 (.v 9) (.v 34)⟩,
  ⟨some 10, none, none, .objs [], .mv (.v 35)⟩])) <|
  .seq (.seq (.ops ([
  ⟨some 36, none, none, .objs [], .mv (.v 10)⟩,
  ⟨some 37, none, none, .objs [], .bin .neq false (.v 36) (.c (.sc (.int .i64 0)))⟩])) <|
  .cond (.v 37) (.seq (.ops ([
    ⟨some 6, none, none, .objs [], .mv (.c (.sc (.bool false)))⟩])) <|
    .ret) (.nop)) <|
  .seq (.seq (.ops ([
  ⟨some 38, none, none, .objs [], .fa 0 (.v 9)⟩,
  ⟨some 39, none, none, .objs [], .ld false 1 (.v 38)⟩] ++ mkL [1, 2, 7, 8, 9, 39] ([
  ⟨some 40, none, none, .objs [], .bin .eql false (.v 39) (.c (.sc (.int .i64 0)))⟩,
  ⟨some 41, none, none, .objs [], .mv (.v 40)⟩,
  ⟨some 42, some (41, false), none, .objs [], .fa 0 (.v 9)⟩,
  ⟨some 43, some (41, false), none, .objs [], .ld false 1 (.v 42)⟩,
  ⟨some 44, some (41, false), none, .objs [], .bin .eql false (.v 43) (.c (.sc (.int .i64 8)))⟩,
  ⟨some 45, none, none, .objs [], .pk (.v 41) (.c (.sc (.bool true))) (.v 44)⟩]))) <|
  .cond (.v 45) (.seq (.opsD [(3, 11), (3, 17), (8, 17), (11, 17), (13, 17)] ([
    ⟨some 47, none, none, .objs [], .mv (.v 7)⟩,
    ⟨some 48, none, none, .objs [], .mv (.v 8)⟩,
    ⟨some 49, none, none, .objs [], .mv (.v 8)⟩,
    ⟨some 50, none, none, .objs [(.v 49)], .lenS (.v 49)⟩,
    ⟨some 51, none, none, .objs [], .bin .quo false (.v 50) (.c (.sc (.int .i64 2)))⟩,
    ⟨some 52, none, none, .objs [], .sl 4 (.v 48) none (some (.v 51)) none⟩,
    ⟨some 53, none, none, .objs [], .mv (.v 8)⟩,
    ⟨some 54, none, none, .objs [], .mv (.v 8)⟩] ++ mkL [47, 52, 53, 54] ([
    ⟨some 55, none, none, .objs [(.v 54)], .lenS (.v 54)⟩,
    ⟨some 56, none, none, .objs [], .bin .quo false (.v 55) (.c (.sc (.int .i64 2)))⟩,
    ⟨some 57, none, none, .objs [], .sl 4 (.v 53) none (some (.v 56)) none⟩,
    ⟨some 58, none, none, .cal (.c (.fn (.func 22) [] [])) [(.v 57)], .call (.c (.fn (.func 22) [] [])) [(.v 57)]⟩,
    ⟨some 59, none, none, .objs [], .bin .add false (.c (.sc (.int .i64 0))) (.v 58)⟩,
    ⟨some 60, none, none, .cal (.c (.fn (.func 12) [] [])) [(.v 47), (.v 52), (.v 59)], .call (.c (.fn (.func 12) [] [])) [(.v 47), (.v 52), (.v 59)]⟩,
    ⟨some 46, none, none, .objs [], .mv (.v 60)⟩,
    ⟨some 61, none, none, .objs [], .ex (.v 46) 0⟩,
    ⟨some 62, none, none, .objs [], .ex (.v 46) 1⟩,
    ⟨some 11, none, none, .objs [], .nw 4 (.agg [(.sc (.int .i64 0)), (.sc (.int .i64 0)), (.sc (.int .i64 0)), (.sc (.int .i64 0))])⟩,
    ⟨none, none, none, .objs [(.v 11)], .st 4 (.v 11) (.v 61)⟩,
    ⟨some 12, none, none, .objs [], .mv (.v 62)⟩]))) <|
    .seq (.ops ([
    ⟨some 63, none, none, .objs [], .mv (.v 12)⟩,
    ⟨some 64, none, none, .objs [], .bin .eql false (.v 63) (.c (.sc (.int .i64 0)))⟩] ++ mkL [11, 64] ([
    ⟨some 65, none, none, .objs [], .mv (.v 64)⟩,
    ⟨some 66, some (65, true), none, .objs [], .fa 0 (.v 11)⟩,
    ⟨some 67, some (65, true), none, .objs [], .ld false 1 (.v 66)⟩,
    ⟨some 68, some (65, true), none, .objs [], .bin .eql false (.v 67) (.c (.sc (.int .i64 0)))⟩,
    ⟨some 69, some (65, true), none, .objs [], .mv (.v 68)⟩,
    ⟨some 70, some (69, false), none, .objs [], .fa 0 (.v 11)⟩,
    ⟨some 71, some (69, false), none, .objs [], .ld false 1 (.v 70)⟩,
    ⟨some 72, some (69, false), none, .objs [], .bin .eql false (.v 71) (.c (.sc (.int .i64 8)))⟩,
    ⟨some 73, some (65, true), none, .objs [], .pk (.v 69) (.c (.sc (.bool true))) (.v 72)⟩,
    ⟨some 74, none, none, .objs [], .pk (.v 65) (.v 73) (.c (.sc (.bool false)))⟩,
    ⟨some 6, none, none, .objs [], .mv (.v 74)⟩]))) <|
    .ret) (.nop)) <|
  .seq (.opsD [(0, 3), (0, 9), (6, 9)] ([
  ⟨some 75, none, none, .objs [], .bs false 5 (.agg [(.sc (.int .u8 0)), (.sc (.bool false)), (.sc (.int .u8 0)), (.sc (.int .u8 0)), (.sc (.int .u8 0))]) 0 []⟩,
  ⟨some 76, none, none, .objs [], .mv (.v 1)⟩,
  ⟨some 77, none, none, .objs [], .mv (.v 1)⟩] ++ mkL [2, 7, 8, 9, 75, 76, 77] ([
  ⟨some 78, none, none, .objs [(.v 77)], .lenS (.v 77)⟩,
  ⟨some 79, none, none, .objs [], .mnx false (.v 78) (.c (.sc (.int .i64 100)))⟩,
  ⟨some 80, none, none, .objs [], .sl 5 (.v 76) none (some (.v 79)) none⟩,
  ⟨some 81, none, none, .objs [(.v 75), (.v 80)], .app 5 5 (.v 75) (.v 80)⟩,
  ⟨some 82, none, none, .objs [], .mv (.v 2)⟩,
  ⟨some 83, none, none, .objs [], .mv (.v 2)⟩,
  ⟨some 84, none, none, .objs [(.v 83)], .lenS (.v 83)⟩,
  ⟨some 85, none, none, .objs [], .mnx false (.v 84) (.c (.sc (.int .i64 50)))⟩,
  ⟨some 86, none, none, .objs [], .sl 5 (.v 82) none (some (.v 85)) none⟩,
  ⟨some 87, none, none, .objs [(.v 81), (.v 86)], .app 5 5 (.v 81) (.v 86)⟩,
  ⟨some 88, none, none, .cal (.c (.fn (.func 11) [] [])) [(.v 87)], .call (.c (.fn (.func 11) [] [])) [(.v 87)]⟩,
  ⟨some 13, none, none, .objs [], .mv (.v 88)⟩]))) <|
  .seq (.ops ([
  ⟨some 90, none, none, .objs [], .mv (.v 7)⟩,
  ⟨some 91, none, none, .objs [], .mv (.v 13)⟩] ++ mkL [7, 8, 9, 90, 91] ([
  ⟨some 92, none, none, .objs [], .call (.c (.fn (.func 12) [] [])) [(.v 90), (.v 91), (.c (.sc (.int .i64 1099511627776)))]⟩,
  ⟨some 89, none, none, .objs [], .mv (.v 92)⟩,
  ⟨some 93, none, none, .objs [], .ex (.v 89) 0⟩,
  ⟨some 94, none, none, .objs [], .ex (.v 89) 1⟩,
  ⟨some 14, none, none, .objs [], .nw 4 (.agg [(.sc (.int .i64 0)), (.sc (.int .i64 0)), (.sc (.int .i64 0)), (.sc (.int .i64 0))])⟩,
  ⟨none, none, none, .objs [], .st 4 (.v 14) (.v 93)⟩,
  ⟨some 15, none, none, .objs [], .mv (.v 94)⟩]))) <|
  .seq (.opsD [(3, 9), (3, 14), (7, 14), (9, 14), (10, 14)] ([
  ⟨some 96, none, none, .objs [], .mv (.v 7)⟩,
  ⟨some 97, none, none, .objs [], .mv (.v 8)⟩,
  ⟨some 98, none, none, .objs [], .fa 1 (.v 9)⟩,
  ⟨some 99, none, none, .objs [(.v 98)], .ld false 1 (.v 98)⟩,
  ⟨some 100, none, none, .objs [], .sl 4 (.v 97) none (some (.v 99)) none⟩,
  ⟨some 101, none, none, .objs [], .mv (.v 8)⟩,
  ⟨some 102, none, none, .objs [], .fa 1 (.v 9)⟩] ++ mkL [7, 8, 9, 14, 15, 96, 100, 101, 102] ([
  ⟨some 103, none, none, .objs [(.v 102)], .ld false 1 (.v 102)⟩,
  ⟨some 104, none, none, .objs [], .sl 4 (.v 101) none (some (.v 103)) none⟩,
  ⟨some 105, none, none, .cal (.c (.fn (.func 22) [] [])) [(.v 104)], .call (.c (.fn (.func 22) [] [])) [(.v 104)]⟩,
  ⟨some 106, none, none, .cal (.c (.fn (.func 12) [] [])) [(.v 96), (.v 100), (.v 105)], .call (.c (.fn (.func 12) [] [])) [(.v 96), (.v 100), (.v 105)]⟩,
  ⟨some 95, none, none, .objs [], .mv (.v 106)⟩,
  ⟨some 107, none, none, .objs [], .ex (.v 95) 0⟩,
  ⟨some 108, none, none, .objs [], .ex (.v 95) 1⟩,
  ⟨some 16, none, none, .objs [], .nw 4 (.agg [(.sc (.int .i64 0)), (.sc (.int .i64 0)), (.sc (.int .i64 0)), (.sc (.int .i64 0))])⟩,
  ⟨none, none, none, .objs [(.v 16)], .st 4 (.v 16) (.v 107)⟩,
  ⟨some 17, none, none, .objs [], .mv (.v 108)⟩]))) <|
  .seq (.opsD [(3, 11), (3, 16), (8, 16), (11, 16), (12, 16)] ([
  ⟨some 110, none, none, .objs [], .mv (.v 7)⟩,
  ⟨some 111, none, none, .objs [], .mv (.v 8)⟩,
  ⟨some 112, none, none, .objs [], .fa 1 (.v 9)⟩,
  ⟨some 113, none, none, .objs [(.v 112)], .ld false 1 (.v 112)⟩] ++ mkL [8, 9, 14, 15, 16, 17, 110, 111, 113] ([
  ⟨some 114, none, none, .objs [], .bin .add false (.v 113) (.c (.sc (.int .i64 1)))⟩,
  ⟨some 115, none, none, .objs [], .sl 4 (.v 111) none (some (.v 114)) none⟩,
  ⟨some 116, none, none, .objs [], .mv (.v 8)⟩,
  ⟨some 117, none, none, .objs [], .fa 1 (.v 9)⟩,
  ⟨some 118, none, none, .objs [(.v 117)], .ld false 1 (.v 117)⟩,
  ⟨some 119, none, none, .objs [], .bin .add false (.v 118) (.c (.sc (.int .i64 1)))⟩,
  ⟨some 120, none, none, .objs [], .sl 4 (.v 116) none (some (.v 119)) none⟩,
  ⟨some 121, none, none, .cal (.c (.fn (.func 22) [] [])) [(.v 120)], .call (.c (.fn (.func 22) [] [])) [(.v 120)]⟩,
  ⟨some 122, none, none, .cal (.c (.fn (.func 12) [] [])) [(.v 110), (.v 115), (.v 121)], .call (.c (.fn (.func 12) [] [])) [(.v 110), (.v 115), (.v 121)]⟩,
  ⟨some 109, none, none, .objs [], .mv (.v 122)⟩,
  ⟨some 123, none, none, .objs [], .ex (.v 109) 0⟩,
  ⟨some 124, none, none, .objs [], .ex (.v 109) 1⟩,
  ⟨some 18, none, none, .objs [], .nw 4 (.agg [(.sc (.int .i64 0)), (.sc (.int .i64 0)), (.sc (.int .i64 0)), (.sc (.int .i64 0))])⟩,
  ⟨none, none, none, .objs [(.v 18)], .st 4 (.v 18) (.v 123)⟩] ++ mkL [9, 14, 15, 16, 17, 18, 124] ([
  ⟨some 19, none, none, .objs [], .mv (.v 124)⟩])))) <|
  .seq (.ops ([
  ⟨some 125, none, none, .objs [], .mv (.v 15)⟩,
  ⟨some 126, none, none, .objs [], .bin .eql false (.v 125) (.c (.sc (.int .i64 0)))⟩,
  ⟨some 127, none, none, .objs [], .mv (.v 126)⟩,
  ⟨some 128, some (127, true), none, .objs [], .ld true 4 (.v 14)⟩,
  ⟨some 129, some (127, true), none, .objs [], .ld true 4 (.v 9)⟩,
  ⟨some 130, some (127, true), none, .objs [], .raw (opOf Tryd.prog 6 14 5)⟩,
  ⟨some 131, none, none, .objs [], .pk (.v 127) (.v 130) (.c (.sc (.bool false)))⟩,
  ⟨some 132, none, none, .objs [], .mv (.v 131)⟩,
  ⟨some 133, some (132, true), none, .objs [], .mv (.v 17)⟩,
  ⟨some 134, some (132, true), none, .objs [], .bin .eql false (.v 133) (.c (.sc (.int .i64 0)))⟩,
  ⟨some 135, none, none, .objs [], .pk (.v 132) (.v 134) (.c (.sc (.bool false)))⟩,
  ⟨some 136, none, none, .objs [], .mv (.v 135)⟩,
  ⟨some 137, some (136, true), none, .objs [], .fa 0 (.v 16)⟩] ++ mkL [9, 16, 18, 19, 136, 137] ([
  ⟨some 138, some (136, true), none, .objs [], .ld false 1 (.v 137)⟩,
  ⟨some 139, some (136, true), none, .objs [], .bin .eql false (.v 138) (.c (.sc (.int .i64 0)))⟩,
  ⟨some 140, some (136, true), none, .objs [], .mv (.v 139)⟩,
  ⟨some 141, some (140, false), none, .objs [], .fa 0 (.v 16)⟩,
  ⟨some 142, some (140, false), none, .objs [], .ld false 1 (.v 141)⟩,
  ⟨some 143, some (140, false), none, .objs [], .bin .eql false (.v 142) (.c (.sc (.int .i64 8)))⟩,
  ⟨some 144, some (136, true), none, .objs [], .pk (.v 140) (.c (.sc (.bool true))) (.v 143)⟩,
  ⟨some 145, none, none, .objs [], .pk (.v 136) (.v 144) (.c (.sc (.bool false)))⟩,
  ⟨some 146, none, none, .objs [], .mv (.v 145)⟩,
  ⟨some 147, some (146, true), none, .objs [], .mv (.v 19)⟩,
  ⟨some 148, some (146, true), none, .objs [], .bin .eql false (.v 147) (.c (.sc (.int .i64 0)))⟩,
  ⟨some 149, none, none, .objs [], .pk (.v 146) (.v 148) (.c (.sc (.bool false)))⟩,
  ⟨some 150, none, none, .objs [], .mv (.v 149)⟩,
  ⟨some 151, some (150, true), none, .objs [], .ld true 4 (.v 18)⟩] ++ mkL [9, 150, 151] ([
  ⟨some 152, some (150, true), none, .objs [], .ld true 4 (.v 9)⟩,
  ⟨some 153, some (150, true), none, .objs [], .raw (opOf Tryd.prog 6 14 28)⟩,
  ⟨some 154, none, none, .objs [], .pk (.v 150) (.v 153) (.c (.sc (.bool false)))⟩,
  ⟨some 6, none, none, .objs [], .mv (.v 154)⟩])))) <|
  .ret

theorem il6_eq : cFn Tryd.prog pol 6 = some ⟨155, il6c, [(6, none)]⟩ := by kernel_rfl
theorem raw6_14_5 {e : FEnv} {h : Heap} : iStep Tryd.prog pol 6 e h (.raw (opOf Tryd.prog 6 14 5)) = vOf h (binE Tryd.prog false 34 (.tmp 128) (.tmp 129) (Src.get e (.v 128)) (Src.get e (.v 129))) := raw_eql (x := (.tmp 128)) (y := (.tmp 129)) (s := 34) (by kernel_rfl)
theorem raw6_14_28 {e : FEnv} {h : Heap} : iStep Tryd.prog pol 6 e h (.raw (opOf Tryd.prog 6 14 28)) = vOf h (binE Tryd.prog false 34 (.tmp 151) (.tmp 152) (Src.get e (.v 151)) (Src.get e (.v 152))) := raw_eql (x := (.tmp 151)) (y := (.tmp 152)) (s := 34) (by kernel_rfl)

noncomputable def il8l0b : C :=
  .seq (.ops ([
  ⟨some 66, none, none, .objs [], .bin .lss false (.v 65) (.c (.sc (.int .i64 3)))⟩])) <|
  .seq (.cond (.v 66) (.nop) (.exit 0)) <|
  .seq (.block 1 (.seq (.ops ([
    ⟨some 67, none, none, .objs [], .ixA false 1 3 1 (.v 64) (.v 65)⟩,
    ⟨some 20, none, none, .objs [], .mv (.v 67)⟩])) <|
    .seq (.ops ([
    ⟨some 68, none, none, .objs [], .mv (.v 20)⟩,
    ⟨some 69, none, none, .objs [], .call (.c (.fn (.func 13) [] [])) [(.v 68)]⟩,
    ⟨some 21, none, none, .objs [], .mv (.v 69)⟩])) <|
    .seq (.ops ([
    ⟨some 70, none, none, .objs [], .mv (.v 21)⟩,
    ⟨some 71, none, none, .objs [], .mv (.v 20)⟩,
    ⟨some 72, none, none, .objs [], .call (.c (.fn (.func 26) [] [])) [(.v 71)]⟩,
    ⟨some 73, none, none, .objs [], .bin .eql false (.v 72) (.c (.sc (.int .i64 0)))⟩,
    ⟨some 74, none, none, .objs [], .bin .neq true (.v 70) (.v 73)⟩,
    ⟨some 75, none, none, .objs [], .mv (.v 74)⟩,
    ⟨some 76, some (75, false), none, .objs [], .mv (.v 21)⟩,
    ⟨some 77, some (75, false), none, .objs [], .nt (.v 76)⟩] ++ mkL [1, 16, 18, 20, 64, 65, 75, 77] ([
    ⟨some 78, some (75, false), none, .objs [], .mv (.v 77)⟩,
    ⟨some 79, some (78, true), none, .objs [], .mv (.v 20)⟩,
    ⟨some 80, some (78, true), none, .objs [], .call (.c (.fn (.func 26) [] [])) [(.v 79)]⟩,
    ⟨some 81, some (78, true), none, .objs [], .bin .neq false (.v 80) (.c (.sc (.int .i64 541)))⟩,
    ⟨some 82, some (75, false), none, .objs [], .pk (.v 78) (.v 81) (.c (.sc (.bool false)))⟩,
    ⟨some 83, none, none, .objs [], .pk (.v 75) (.c (.sc (.bool true))) (.v 82)⟩]))) <|
    .cond (.v 83) (.seq (.ops ([
      ⟨some 14, none, none, .objs [], .mv (.c (.sc (.bool false)))⟩])) <|
      .ret) (.nop))) <|
  .ops ([
  ⟨some 84, none, none, .objs [], .bin .add false (.v 65) (.c (.sc (.int .i64 1)))⟩,
  ⟨some 65, none, none, .objs [], .mv (.v 84)⟩])
noncomputable def il8l0 : C := il8l0b
theorem il8l0_go {P : Program} {pol : Pol} {K : Oracle} {I : Inl} {n : Nat} {f : FuncId} {R : Xit → FEnv → Heap → Prop} {e : FEnv} {h : Heap} : wc P pol K I n f il8l0 R e h = wc P pol K I n f il8l0b R e h := (fun x => x) rfl

noncomputable def il8l1b : C :=
  .seq (.ops ([
  ⟨some 94, none, none, .objs [], .bin .lss false (.v 93) (.c (.sc (.int .i64 3)))⟩])) <|
  .seq (.cond (.v 94) (.nop) (.exit 2)) <|
  .seq (.block 3 (.seq (.ops ([
    ⟨some 95, none, none, .objs [], .ixA false 1 3 1 (.v 92) (.v 93)⟩,
    ⟨some 23, none, none, .objs [], .mv (.v 95)⟩])) <|
    .seq (.ops ([
    ⟨some 96, none, none, .objs [], .mv (.v 23)⟩,
    ⟨some 97, none, none, .objs [], .call (.c (.fn (.func 14) [] [])) [(.v 96)]⟩,
    ⟨some 24, none, none, .objs [], .mv (.v 97)⟩])) <|
    .seq (.ops ([
    ⟨some 98, none, none, .objs [], .mv (.v 24)⟩,
    ⟨some 99, none, none, .objs [], .mv (.v 23)⟩,
    ⟨some 100, none, none, .objs [], .call (.c (.fn (.func 29) [] [])) [(.v 99)]⟩,
    ⟨some 101, none, none, .objs [], .bin .eql false (.v 100) (.c (.sc (.int .i64 0)))⟩,
    ⟨some 102, none, none, .objs [], .bin .neq true (.v 98) (.v 101)⟩,
    ⟨some 103, none, none, .objs [], .mv (.v 102)⟩,
    ⟨some 104, some (103, false), none, .objs [], .mv (.v 24)⟩,
    ⟨some 105, some (103, false), none, .objs [], .nt (.v 104)⟩] ++ mkL [23, 92, 93, 103, 105] ([
    ⟨some 106, some (103, false), none, .objs [], .mv (.v 105)⟩,
    ⟨some 107, some (106, true), none, .objs [], .mv (.v 23)⟩,
    ⟨some 108, some (106, true), none, .objs [], .call (.c (.fn (.func 29) [] [])) [(.v 107)]⟩,
    ⟨some 109, some (106, true), none, .objs [], .bin .neq false (.v 108) (.c (.sc (.int .i64 540)))⟩,
    ⟨some 110, some (103, false), none, .objs [], .pk (.v 106) (.v 109) (.c (.sc (.bool false)))⟩,
    ⟨some 111, none, none, .objs [], .pk (.v 103) (.c (.sc (.bool true))) (.v 110)⟩]))) <|
    .cond (.v 111) (.seq (.ops ([
      ⟨some 14, none, none, .objs [], .mv (.c (.sc (.bool false)))⟩])) <|
      .ret) (.nop))) <|
  .ops ([
  ⟨some 112, none, none, .objs [], .bin .add false (.v 93) (.c (.sc (.int .i64 1)))⟩,
  ⟨some 93, none, none, .objs [], .mv (.v 112)⟩])
noncomputable def il8l1 : C := il8l1b
theorem il8l1_go {P : Program} {pol : Pol} {K : Oracle} {I : Inl} {n : Nat} {f : FuncId} {R : Xit → FEnv → Heap → Prop} {e : FEnv} {h : Heap} : wc P pol K I n f il8l1 R e h = wc P pol K I n f il8l1b R e h := (fun x => x) rfl

noncomputable def il8c : C :=
  .seq (.ops ([
  ⟨some 12, none, none, .objs [], .bx false (.v 5)⟩,
  ⟨some 13, none, none, .objs [], .bx false (.v 6)⟩,
  ⟨some 14, none, none, .objs [], .mv (.c (.sc (.bool false)))⟩])) <|
  .seq (.seq (.ops ([
  ⟨some 25, none, none, .objs [], .call (.c (.fn (.func 9) [] [])) []⟩,
  ⟨some 26, none, none, .objs [], .nt (.v 25)⟩])) <|
  .cond (.v 26) (.seq (.ops ([
    ⟨some 14, none, none, .objs [], .mv (.c (.sc (.bool false)))⟩])) <|
    .ret) (.nop)) <|
  .seq (.ops ([
  ⟨some 27, none, none, .objs [], .mv (.v 2)⟩,
  ⟨some 28, none, none, .objs [], .call (.c (.fn (.func 10) [] [])) [(.v 27)]⟩,
  ⟨some 29, none, none, .objs [], .mv (.v 3)⟩,
  ⟨some 30, none, none, .objs [], .call (.c (.fn (.func 11) [] [])) [(.v 29)]⟩,
  ⟨some 15, none, none, .objs [], .mv (.v 28)⟩,
  ⟨some 16, none, none, .objs [], .mv (.v 30)⟩])) <|
  .seq (.ops ([
  ⟨some 31, none, none, .objs [], .mv (.v 15)⟩,
  ⟨some 32, none, none, .objs [], .call (.c (.fn (.func 27) [] [])) [(.v 31)]⟩] ++ mkL [0, 1, 4, 12, 13, 15, 16, 32] ([
  ⟨some 33, none, none, .objs [], .mv (.v 16)⟩,
  ⟨some 34, none, none, .objs [], .call (.c (.fn (.func 28) [] [])) [(.v 33)]⟩,
  ⟨some 17, none, none, .objs [], .mv (.v 32)⟩,
  ⟨some 18, none, none, .objs [], .mv (.v 34)⟩]))) <|
  .seq (.seq (.ops ([
  ⟨some 35, none, none, .objs [], .mv (.v 17)⟩,
  ⟨some 36, none, none, .objs [], .lenS (.v 35)⟩,
  ⟨some 37, none, none, .objs [], .bin .gtr false (.v 36) (.c (.sc (.int .i64 0)))⟩])) <|
  .cond (.v 37) (.opsD [] ([
    ⟨some 38, none, none, .objs [], .mv (.v 17)⟩,
    ⟨some 39, none, none, .objs [], .mv (.v 4)⟩,
    ⟨some 40, none, none, .objs [], .cv .i64 (.v 39)⟩,
    ⟨some 41, none, none, .objs [], .mv (.v 17)⟩,
    ⟨some 42, none, none, .objs [(.v 41)], .lenS (.v 41)⟩,
    ⟨some 43, none, none, .objs [], .bin .rem false (.v 40) (.v 42)⟩,
    ⟨some 44, none, none, .objs [(.v 12)], .ld true 4 (.v 12)⟩] ++ mkL [0, 1, 4, 13, 15, 16, 17, 18, 38, 43, 44] ([
    ⟨some 45, none, none, .objs [], .iaS 4 (.v 38) (.v 43)⟩,
    ⟨none, none, none, .objs [(.v 45)], .st 4 (.v 45) (.v 44)⟩]))) (.nop)) <|
  .seq (.seq (.ops ([
  ⟨some 46, none, none, .objs [], .mv (.v 18)⟩,
  ⟨some 47, none, none, .objs [], .lenS (.v 46)⟩,
  ⟨some 48, none, none, .objs [], .bin .gtr false (.v 47) (.c (.sc (.int .i64 0)))⟩])) <|
  .cond (.v 48) (.opsD [] ([
    ⟨some 49, none, none, .objs [], .mv (.v 18)⟩,
    ⟨some 50, none, none, .objs [], .mv (.v 4)⟩,
    ⟨some 51, none, none, .objs [], .cv .i64 (.v 50)⟩,
    ⟨some 52, none, none, .objs [], .mv (.v 18)⟩] ++ mkL [0, 1, 13, 15, 16, 17, 18, 49, 51, 52] ([
    ⟨some 53, none, none, .objs [(.v 52)], .lenS (.v 52)⟩,
    ⟨some 54, none, none, .objs [], .bin .rem false (.v 51) (.v 53)⟩,
    ⟨some 55, none, none, .objs [(.v 13)], .ld true 4 (.v 13)⟩,
    ⟨some 56, none, none, .objs [], .iaS 4 (.v 49) (.v 54)⟩,
    ⟨none, none, none, .objs [(.v 56)], .st 4 (.v 56) (.v 55)⟩]))) (.nop)) <|
  .seq (.seq (.ops ([
  ⟨some 57, none, none, .objs [], .mv (.v 0)⟩,
  ⟨some 58, none, none, .objs [], .mv (.v 0)⟩,
  ⟨some 59, none, none, .objs [], .lenS (.v 58)⟩,
  ⟨some 60, none, none, .objs [], .mnx false (.v 59) (.c (.sc (.int .i64 14)))⟩] ++ mkL [1, 15, 16, 17, 18, 57, 60] ([
  ⟨some 61, none, none, .objs [], .sl 4 (.v 57) none (some (.v 60)) none⟩,
  ⟨some 62, none, none, .objs [], .mv (.v 15)⟩,
  ⟨some 63, none, none, .objs [], .mv (.v 17)⟩,
  ⟨some 64, none, some [(.v 61), (.v 62), (.v 63)], .objs [], .bd [(.sc (.slice none 0 0)), (.sc (.slice none 0 0)), (.sc (.slice none 0 0))] [(0, 1, (.v 61)), (1, 1, (.v 62)), (2, 1, (.v 63))]⟩,
  ⟨some 65, none, none, .objs [], .mv (.c (.sc (.int .i64 0)))⟩]))) <|
  .block 0 (.loop (some [1, 16, 18, 64, 65]) il8l0)) <|
  .seq (.seq (.ops ([
  ⟨some 85, none, none, .objs [], .mv (.v 1)⟩,
  ⟨some 86, none, none, .objs [], .mv (.v 1)⟩,
  ⟨some 87, none, none, .objs [], .lenS (.v 86)⟩,
  ⟨some 88, none, none, .objs [], .mnx false (.v 87) (.c (.sc (.int .i64 300)))⟩,
  ⟨some 89, none, none, .objs [], .sl 4 (.v 85) none (some (.v 88)) none⟩,
  ⟨some 90, none, none, .objs [], .mv (.v 16)⟩,
  ⟨some 91, none, none, .objs [], .mv (.v 18)⟩,
  ⟨some 92, none, some [(.v 89), (.v 90), (.v 91)], .objs [], .bd [(.sc (.slice none 0 0)), (.sc (.slice none 0 0)), (.sc (.slice none 0 0))] [(0, 1, (.v 89)), (1, 1, (.v 90)), (2, 1, (.v 91))]⟩,
  ⟨some 93, none, none, .objs [], .mv (.c (.sc (.int .i64 0)))⟩])) <|
  .block 2 (.loop (some [92, 93]) il8l1)) <|
  .seq (.ops ([
  ⟨some 14, none, none, .objs [], .mv (.c (.sc (.bool true)))⟩])) <|
  .ret

theorem il8_eq : cFn Tryd.prog pol 8 = some ⟨113, il8c, [(14, none)]⟩ := by kernel_rfl

noncomputable def il10l0b : C :=
  .seq (.seq (.ops ([
  ⟨some 5, none, none, .objs [], .mv (.v 4)⟩,
  ⟨some 6, none, none, .objs [], .mv (.v 0)⟩,
  ⟨some 7, none, none, .objs [], .lenS (.v 6)⟩,
  ⟨some 8, none, none, .objs [], .bin .lss false (.v 5) (.v 7)⟩,
  ⟨some 9, none, none, .objs [], .mv (.v 8)⟩,
  ⟨some 10, some (9, true), none, .objs [], .mv (.v 4)⟩,
  ⟨some 11, some (9, true), none, .objs [], .bin .lss false (.v 10) (.c (.sc (.int .i64 12)))⟩,
  ⟨some 12, none, none, .objs [], .pk (.v 9) (.v 11) (.c (.sc (.bool false)))⟩])) <|
  .cond (.v 12) (.nop) (.exit 0)) <|
  .seq (.block 1 (.opsD [] ([
    ⟨some 15, none, none, .objs [], .mv (.v 3)⟩,
    ⟨some 16, none, none, .objs [], .mv (.v 4)⟩,
    ⟨some 17, none, none, .objs [], .bin .add false (.v 16) (.c (.sc (.int .i64 1)))⟩,
    ⟨some 18, none, none, .objs [], .mv (.v 0)⟩,
    ⟨some 19, none, none, .objs [], .mv (.v 4)⟩,
    ⟨some 20, none, none, .objs [], .iaS 3 (.v 18) (.v 19)⟩] ++ mkL [0, 4, 15, 17, 20] ([
    ⟨some 21, none, none, .objs [], .fa 0 (.v 20)⟩,
    ⟨some 22, none, none, .objs [(.v 21)], .ld false 1 (.v 21)⟩,
    ⟨some 23, none, none, .objs [], .cv .i64 (.v 22)⟩,
    ⟨some 24, none, none, .objs [], .mv (.v 0)⟩,
    ⟨some 25, none, none, .objs [], .mv (.v 4)⟩,
    ⟨some 26, none, none, .objs [], .iaS 3 (.v 24) (.v 25)⟩,
    ⟨some 27, none, none, .objs [], .fa 0 (.v 26)⟩,
    ⟨some 28, none, none, .objs [(.v 27)], .ld false 1 (.v 27)⟩,
    ⟨some 29, none, none, .objs [], .cv .i64 (.v 28)⟩,
    ⟨some 30, none, none, .objs [], .mv (.v 0)⟩,
    ⟨some 31, none, none, .objs [], .mv (.v 4)⟩,
    ⟨some 32, none, none, .objs [], .iaS 3 (.v 30) (.v 31)⟩,
    ⟨some 33, none, none, .objs [], .fa 1 (.v 32)⟩,
    ⟨some 34, none, none, .objs [(.v 33)], .ld false 1 (.v 33)⟩] ++ mkL [0, 4, 15, 17, 23, 29, 34] ([
    ⟨some 35, none, none, .objs [], .cv .i64 (.v 34)⟩,
    ⟨some 36, none, none, .objs [], .bin .add false (.v 29) (.v 35)⟩,
    ⟨some 37, none, none, .objs [], .mv (.v 0)⟩,
    ⟨some 38, none, none, .objs [], .mv (.v 4)⟩,
    ⟨some 39, none, none, .objs [], .iaS 3 (.v 37) (.v 38)⟩,
    ⟨some 40, none, none, .objs [], .fa 2 (.v 39)⟩,
    ⟨some 41, none, none, .objs [(.v 40)], .ld false 1 (.v 40)⟩,
    ⟨some 42, none, none, .objs [], .bd [(.sc (.int .i64 0)), (.sc (.int .i64 0)), (.sc (.int .i64 0)), (.sc (.bool false))] [(0, 1, (.v 17)), (1, 1, (.v 23)), (2, 1, (.v 36)), (3, 1, (.v 41))]⟩,
    ⟨some 43, none, none, .objs [], .bs false 4 (.agg [(.sc (.int .i64 0)), (.sc (.int .i64 0)), (.sc (.int .i64 0)), (.sc (.bool false))]) 1 [(0, (.v 42))]⟩,
    ⟨some 44, none, none, .objs [(.v 15), (.v 43)], .app 4 32 (.v 15) (.v 43)⟩,
    ⟨some 3, none, none, .objs [], .gmv 4 (.v 44)⟩]))))) <|
  .ops ([
  ⟨some 13, none, none, .objs [], .mv (.v 4)⟩,
  ⟨some 14, none, none, .objs [], .bin .add false (.v 13) (.c (.sc (.int .i64 1)))⟩,
  ⟨some 4, none, none, .objs [], .mv (.v 14)⟩])
noncomputable def il10l0 : C := il10l0b
theorem il10l0_go {P : Program} {pol : Pol} {K : Oracle} {I : Inl} {n : Nat} {f : FuncId} {R : Xit → FEnv → Heap → Prop} {e : FEnv} {h : Heap} : wc P pol K I n f il10l0 R e h = wc P pol K I n f il10l0b R e h := (fun x => x) rfl

noncomputable def il10c : C :=
  .seq (.ops ([
  ⟨some 2, none, none, .objs [], .mv (.c (.sc (.slice none 0 0)))⟩])) <|
  .seq (.ops ([
  ⟨some 3, none, none, .objs [], .gmv 4 (.c (.sc (.slice none 0 0)))⟩])) <|
  .seq (.seq (.ops ([
  ⟨some 4, none, none, .objs [], .mv (.c (.sc (.int .i64 0)))⟩])) <|
  .block 0 (.loop (some [0, 3, 4]) il10l0)) <|
  .seq (.ops ([
  ⟨some 45, none, none, .objs [], .mv (.v 3)⟩,
  ⟨some 2, none, none, .objs [], .mv (.v 45)⟩])) <|
  .ret

theorem il10_eq : cFn Tryd.prog pol 10 = some ⟨46, il10c, [(2, none)]⟩ := by kernel_rfl

noncomputable def il11l0b : C :=
  .seq (.seq (.ops ([
  ⟨some 7, none, none, .objs [], .mv (.v 5)⟩,
  ⟨some 8, none, none, .objs [], .mv (.v 0)⟩,
  ⟨some 9, none, none, .objs [], .lenS (.v 8)⟩,
  ⟨some 10, none, none, .objs [], .bin .lss false (.v 7) (.v 9)⟩,
  ⟨some 11, none, none, .objs [], .mv (.v 10)⟩,
  ⟨some 12, some (11, true), none, .objs [], .mv (.v 5)⟩,
  ⟨some 13, some (11, true), none, .objs [], .bin .lss false (.v 12) (.c (.sc (.int .i64 200)))⟩,
  ⟨some 14, none, none, .objs [], .pk (.v 11) (.v 13) (.c (.sc (.bool false)))⟩])) <|
  .cond (.v 14) (.nop) (.exit 0)) <|
  .seq (.block 1 (.seq (.ops ([
    ⟨some 17, none, none, .objs [], .mv (.v 4)⟩,
    ⟨some 18, none, none, .objs [], .mv (.v 0)⟩,
    ⟨some 19, none, none, .objs [], .mv (.v 5)⟩,
    ⟨some 20, none, none, .objs [], .iaS 5 (.v 18) (.v 19)⟩,
    ⟨some 21, none, none, .objs [], .fa 0 (.v 20)⟩,
    ⟨some 22, none, none, .objs [], .ld false 1 (.v 21)⟩] ++ mkL [0, 3, 5, 17, 22] ([
    ⟨some 23, none, none, .objs [], .cv .i64 (.v 22)⟩,
    ⟨some 24, none, none, .objs [], .bin .add false (.v 17) (.v 23)⟩,
    ⟨some 4, none, none, .objs [], .mv (.v 24)⟩]))) <|
    .seq (.opsD [(4, 16), (11, 16)] ([
    ⟨some 25, none, none, .objs [], .mv (.v 0)⟩,
    ⟨some 26, none, none, .objs [], .mv (.v 5)⟩,
    ⟨some 27, none, none, .objs [], .iaS 5 (.v 25) (.v 26)⟩,
    ⟨some 28, none, none, .objs [], .fa 2 (.v 27)⟩,
    ⟨some 29, none, none, .objs [(.v 28)], .ld false 1 (.v 28)⟩,
    ⟨some 30, none, none, .objs [], .bin .rem false (.v 29) (.c (.sc (.int .u8 4)))⟩,
    ⟨some 31, none, none, .objs [], .cv .i64 (.v 30)⟩,
    ⟨some 32, none, none, .objs [], .mv (.v 0)⟩,
    ⟨some 33, none, none, .objs [], .mv (.v 5)⟩,
    ⟨some 34, none, none, .objs [], .iaS 5 (.v 32) (.v 33)⟩,
    ⟨some 35, none, none, .objs [], .fa 3 (.v 34)⟩] ++ mkL [0, 3, 4, 5, 31, 35] ([
    ⟨some 36, none, none, .objs [(.v 35)], .ld false 1 (.v 35)⟩,
    ⟨some 37, none, none, .objs [], .bin .rem false (.v 36) (.c (.sc (.int .u8 16)))⟩,
    ⟨some 38, none, none, .objs [], .cv .i64 (.v 37)⟩,
    ⟨some 39, none, none, .objs [], .mv (.v 4)⟩,
    ⟨some 40, none, none, .objs [], .bd [(.sc (.int .i64 0)), (.sc (.int .i64 0)), (.sc (.int .i64 0)), (.sc (.int .i64 0))] [(0, 1, (.c (.sc (.int .i64 1)))), (1, 1, (.v 31)), (2, 1, (.v 38)), (3, 1, (.v 39))]⟩,
    ⟨some 6, none, none, .objs [], .nw 4 (.agg [(.sc (.int .i64 0)), (.sc (.int .i64 0)), (.sc (.int .i64 0)), (.sc (.int .i64 0))])⟩,
    ⟨none, none, none, .objs [(.v 6)], .st 4 (.v 6) (.v 40)⟩]))) <|
    .seq (.seq (.ops ([
    ⟨some 41, none, none, .objs [], .mv (.v 0)⟩,
    ⟨some 42, none, none, .objs [], .mv (.v 5)⟩,
    ⟨some 43, none, none, .objs [], .iaS 5 (.v 41) (.v 42)⟩,
    ⟨some 44, none, none, .objs [], .fa 1 (.v 43)⟩,
    ⟨some 45, none, none, .objs [], .ld false 1 (.v 44)⟩])) <|
    .cond (.v 45) (.ops ([
      ⟨some 46, none, none, .objs [], .fa 0 (.v 6)⟩,
      ⟨none, none, none, .objs [], .st 1 (.v 46) (.c (.sc (.int .i64 2)))⟩])) (.nop)) <| mkC [0, 3, 4, 5, 6] <|
    .ops ([
    ⟨some 47, none, none, .objs [], .mv (.v 3)⟩,
    ⟨some 48, none, none, .objs [], .ld true 4 (.v 6)⟩,
    ⟨some 49, none, none, .objs [], .bs false 4 (.agg [(.sc (.int .i64 0)), (.sc (.int .i64 0)), (.sc (.int .i64 0)), (.sc (.int .i64 0))]) 1 [(0, (.v 48))]⟩,
    ⟨some 50, none, none, .objs [], .app 4 32 (.v 47) (.v 49)⟩,
    ⟨some 3, none, none, .objs [], .gmv 4 (.v 50)⟩]))) <|
  .ops ([
  ⟨some 15, none, none, .objs [], .mv (.v 5)⟩,
  ⟨some 16, none, none, .objs [], .bin .add false (.v 15) (.c (.sc (.int .i64 1)))⟩,
  ⟨some 5, none, none, .objs [], .mv (.v 16)⟩])
noncomputable def il11l0 : C := il11l0b
theorem il11l0_go {P : Program} {pol : Pol} {K : Oracle} {I : Inl} {n : Nat} {f : FuncId} {R : Xit → FEnv → Heap → Prop} {e : FEnv} {h : Heap} : wc P pol K I n f il11l0 R e h = wc P pol K I n f il11l0b R e h := (fun x => x) rfl

noncomputable def il11c : C :=
  .seq (.ops ([
  ⟨some 2, none, none, .objs [], .mv (.c (.sc (.slice none 0 0)))⟩])) <|
  .seq (.ops ([
  ⟨some 3, none, none, .objs [], .gmv 4 (.c (.sc (.slice none 0 0)))⟩])) <|
  .seq (.ops ([
  ⟨some 4, none, none, .objs [], .mv (.c (.sc (.int .i64 0)))⟩])) <|
  .seq (.seq (.ops ([
  ⟨some 5, none, none, .objs [], .mv (.c (.sc (.int .i64 0)))⟩])) <|
  .block 0 (.loop (some [0, 3, 4, 5]) il11l0)) <|
  .seq (.ops ([
  ⟨some 51, none, none, .objs [], .mv (.v 3)⟩,
  ⟨some 2, none, none, .objs [], .mv (.v 51)⟩])) <|
  .ret

theorem il11_eq : cFn Tryd.prog pol 11 = some ⟨52, il11c, [(2, none)]⟩ := by kernel_rfl

noncomputable def il12l0b : C :=
  .seq (.ops ([
  ⟨some 58, none, none, .objs [], .bin .lss false (.v 57) (.v 56)⟩])) <|
  .seq (.cond (.v 58) (.nop) (.exit 0)) <|
  .seq (.block 1 (.seq (.ops ([
    ⟨some 59, none, none, .objs [], .iaS 4 (.v 55) (.v 57)⟩,
    ⟨some 60, none, none, .objs [], .ld true 4 (.v 59)⟩,
    ⟨some 12, none, none, .objs [], .nw 4 (.agg [(.sc (.int .i64 0)), (.sc (.int .i64 0)), (.sc (.int .i64 0)), (.sc (.bool false))])⟩,
    ⟨none, none, none, .objs [], .st 4 (.v 12) (.v 60)⟩])) <|
    .opsD [] ([
    ⟨some 61, none, none, .objs [], .mv (.v 10)⟩,
    ⟨some 62, none, none, .objs [], .nc (.v 61)⟩,
    ⟨some 63, none, none, .objs [], .fa 0 (.v 62)⟩,
    ⟨some 64, none, none, .objs [], .fa 0 (.v 63)⟩,
    ⟨some 65, none, none, .objs [(.v 64)], .ld false 1 (.v 64)⟩,
    ⟨some 66, none, none, .objs [], .fa 0 (.v 12)⟩,
    ⟨some 67, none, none, .objs [(.v 66)], .ld false 1 (.v 66)⟩,
    ⟨some 68, none, none, .objs [(.v 12)], .ld true 4 (.v 12)⟩,
    ⟨none, none, none, .objs [(.v 65)], .raw (opOf Tryd.prog 12 13 8)⟩]))) <| mkC [1, 2, 6, 10, 55, 56, 57] <|
  .ops ([
  ⟨some 69, none, none, .objs [], .bin .add false (.v 57) (.c (.sc (.int .i64 1)))⟩,
  ⟨some 57, none, none, .objs [], .mv (.v 69)⟩])
noncomputable def il12l0 : C := il12l0b
theorem il12l0_go {P : Program} {pol : Pol} {K : Oracle} {I : Inl} {n : Nat} {f : FuncId} {R : Xit → FEnv → Heap → Prop} {e : FEnv} {h : Heap} : wc P pol K I n f il12l0 R e h = wc P pol K I n f il12l0b R e h := (fun x => x) rfl

noncomputable def il12c : C :=
  .seq (.ops ([
  ⟨some 6, none, none, .objs [], .nw 4 (.agg [(.sc (.int .i64 0)), (.sc (.int .i64 0)), (.sc (.int .i64 0)), (.sc (.int .i64 0))])⟩,
  ⟨some 7, none, none, .objs [], .mv (.c (.sc (.int .i64 0)))⟩])) <|
  .seq (.seq (.ops ([
  ⟨some 14, none, none, .objs [], .mv (.v 0)⟩,
  ⟨some 15, none, none, .objs [], .call (.c (.fn (.func 26) [] [])) [(.v 14)]⟩,
  ⟨some 8, none, none, .objs [], .mv (.v 15)⟩])) <|
  .seq (.ops ([
  ⟨some 16, none, none, .objs [], .mv (.v 8)⟩,
  ⟨some 17, none, none, .objs [], .bin .neq false (.v 16) (.c (.sc (.int .i64 0)))⟩])) <|
  .cond (.v 17) (.seq (.ops ([
    ⟨some 18, none, none, .objs [], .bd [(.sc (.int .i64 0)), (.sc (.int .i64 0)), (.sc (.int .i64 0)), (.sc (.int .i64 0))] []⟩,
    ⟨some 19, none, none, .objs [], .mv (.v 8)⟩,
    ⟨none, none, none, .objs [], .st 4 (.v 6) (.v 18)⟩,
    ⟨some 7, none, none, .objs [], .mv (.v 19)⟩])) <|
    .ret) (.nop)) <|
  .seq (.seq (.ops ([
  ⟨some 20, none, none, .objs [], .mv (.v 1)⟩,
  ⟨some 21, none, none, .objs [], .call (.c (.fn (.func 29) [] [])) [(.v 20)]⟩,
  ⟨some 9, none, none, .objs [], .mv (.v 21)⟩])) <| mkC [0, 1, 2, 6, 9] <|
  .seq (.ops ([
  ⟨some 22, none, none, .objs [], .mv (.v 9)⟩,
  ⟨some 23, none, none, .objs [], .bin .neq false (.v 22) (.c (.sc (.int .i64 0)))⟩])) <|
  .cond (.v 23) (.seq (.ops ([
    ⟨some 24, none, none, .objs [], .bd [(.sc (.int .i64 0)), (.sc (.int .i64 0)), (.sc (.int .i64 0)), (.sc (.int .i64 0))] []⟩,
    ⟨some 25, none, none, .objs [], .mv (.v 9)⟩,
    ⟨none, none, none, .objs [], .st 4 (.v 6) (.v 24)⟩,
    ⟨some 7, none, none, .objs [], .mv (.v 25)⟩])) <|
    .ret) (.nop)) <|
  .seq (.seq (.ops ([
  ⟨some 26, none, none, .objs [], .mv (.v 2)⟩,
  ⟨some 27, none, none, .objs [], .bin .lss false (.v 26) (.c (.sc (.int .i64 0)))⟩,
  ⟨some 28, none, none, .objs [], .mv (.v 27)⟩,
  ⟨some 29, some (28, false), none, .objs [], .mv (.v 2)⟩,
  ⟨some 30, some (28, false), none, .objs [], .bin .gtr false (.v 29) (.c (.sc (.int .i64 1099511627776)))⟩,
  ⟨some 31, none, none, .objs [], .pk (.v 28) (.c (.sc (.bool true))) (.v 30)⟩,
  ⟨some 32, none, none, .objs [], .mv (.v 31)⟩,
  ⟨some 33, some (32, false), none, .objs [], .mv (.v 1)⟩] ++ mkL [0, 1, 2, 6, 32, 33] ([
  ⟨some 34, some (32, false), none, .objs [], .lenS (.v 33)⟩,
  ⟨some 35, some (32, false), none, .objs [], .bin .gtr false (.v 34) (.c (.sc (.int .i64 0)))⟩,
  ⟨some 36, some (32, false), none, .objs [], .mv (.v 35)⟩,
  ⟨some 37, some (36, true), none, .objs [], .mv (.v 2)⟩,
  ⟨some 38, some (36, true), none, .objs [], .mv (.v 1)⟩,
  ⟨some 39, some (36, true), none, .objs [], .mv (.v 1)⟩,
  ⟨some 40, some (36, true), none, .objs [], .lenS (.v 39)⟩,
  ⟨some 41, some (36, true), none, .objs [], .bin .sub false (.v 40) (.c (.sc (.int .i64 1)))⟩,
  ⟨some 42, some (36, true), none, .objs [], .iaS 4 (.v 38) (.v 41)⟩,
  ⟨some 43, some (36, true), none, .objs [], .fa 3 (.v 42)⟩,
  ⟨some 44, some (36, true), none, .objs [], .ld false 1 (.v 43)⟩,
  ⟨some 45, some (36, true), none, .objs [], .bin .lss false (.v 37) (.v 44)⟩,
  ⟨some 46, some (32, false), none, .objs [], .pk (.v 36) (.v 45) (.c (.sc (.bool false)))⟩,
  ⟨some 47, none, none, .objs [], .pk (.v 32) (.c (.sc (.bool true))) (.v 46)⟩]))) <| mkC [0, 1, 2, 6, 47] <|
  .cond (.v 47) (.seq (.ops ([
    ⟨some 48, none, none, .objs [], .bd [(.sc (.int .i64 0)), (.sc (.int .i64 0)), (.sc (.int .i64 0)), (.sc (.int .i64 0))] []⟩,
    ⟨none, none, none, .objs [], .st 4 (.v 6) (.v 48)⟩,
    ⟨some 7, none, none, .objs [], .mv (.c (.sc (.int .i64 2)))⟩])) <|
    .ret) (.nop)) <|
  .seq (.ops ([
  ⟨some 49, none, none, .objs [], .raw (opOf Tryd.prog 12 9 0)⟩,
  ⟨some 50, none, none, .objs [], .raw (opOf Tryd.prog 12 9 1)⟩,
  ⟨some 51, none, none, .objs [], .raw (opOf Tryd.prog 12 9 2)⟩,
  ⟨some 52, none, none, .objs [], .bd [(.sc (.map none)), (.sc (.map none)), (.sc (.map none))] [(0, 1, (.v 49)), (1, 1, (.v 50)), (2, 1, (.v 51))]⟩,
  ⟨some 53, none, none, .objs [], .bd [(.sc (.map none)), (.sc (.map none)), (.sc (.map none))] [(0, 3, (.v 52))]⟩,
  ⟨some 54, none, none, .objs [], .bx false (.v 53)⟩,
  ⟨some 10, none, none, .objs [], .mv (.v 54)⟩])) <|
  .seq (.seq (.ops ([
  ⟨some 55, none, none, .objs [], .mv (.v 0)⟩,
  ⟨some 56, none, none, .objs [], .lenS (.v 55)⟩,
  ⟨some 57, none, none, .objs [], .mv (.c (.sc (.int .i64 0)))⟩])) <|
  .block 0 (.loop (some [1, 2, 6, 10, 55, 56, 57]) il12l0)) <|
  .seq (.seq (.ops ([
  ⟨some 70, none, none, .objs [], .mv (.v 10)⟩,
  ⟨some 71, none, none, .objs [], .mv (.v 1)⟩,
  ⟨some 72, none, none, .objs [], .call (.c (.fn (.func 30) [] [])) [(.v 70), (.v 71)]⟩,
  ⟨some 13, none, none, .objs [], .nw 4 (.agg [(.sc (.int .i64 0)), (.sc (.int .i64 0)), (.sc (.int .i64 0)), (.sc (.int .i64 0))])⟩,
  ⟨none, none, none, .objs [], .st 4 (.v 13) (.v 72)⟩])) <|
  .seq (.ops ([
  ⟨some 73, none, none, .objs [], .ld true 4 (.v 13)⟩,
  ⟨some 74, none, none, .objs [], .bd [(.sc (.int .i64 0)), (.sc (.int .i64 0)), (.sc (.int .i64 0)), (.sc (.int .i64 0))] []⟩,
  ⟨some 75, none, none, .objs [], .raw (opOf Tryd.prog 12 16 2)⟩])) <|
  .cond (.v 75) (.seq (.ops ([
    ⟨some 76, none, none, .objs [], .ld true 4 (.v 13)⟩,
    ⟨none, none, none, .objs [], .st 4 (.v 6) (.v 76)⟩,
    ⟨some 7, none, none, .objs [], .mv (.c (.sc (.int .i64 0)))⟩])) <|
    .ret) (.nop)) <|
  .seq (.ops ([
  ⟨some 77, none, none, .objs [], .mv (.v 10)⟩,
  ⟨some 78, none, none, .objs [], .mv (.v 1)⟩,
  ⟨some 79, none, none, .objs [], .mv (.v 2)⟩] ++ mkL [6, 77, 78, 79] ([
  ⟨some 80, none, none, .objs [], .call (.c (.fn (.func 31) [] [])) [(.v 77), (.v 78), (.v 79)]⟩,
  ⟨none, none, none, .objs [], .st 4 (.v 6) (.v 80)⟩,
  ⟨some 7, none, none, .objs [], .mv (.c (.sc (.int .i64 0)))⟩]))) <|
  .ret

theorem il12_eq : cFn Tryd.prog pol 12 = some ⟨81, il12c, [(6, some (true, 4)), (7, none)]⟩ := by kernel_rfl
theorem raw12_9_0 {e : FEnv} {h : Heap} : iStep Tryd.prog pol 12 e h (.raw (opOf Tryd.prog 12 9 0)) = some (.val (.mp h.length) (h ++ [.map []])) := raw_makeMap (t := 74) (by kernel_rfl)
theorem raw12_9_1 {e : FEnv} {h : Heap} : iStep Tryd.prog pol 12 e h (.raw (opOf Tryd.prog 12 9 1)) = some (.val (.mp h.length) (h ++ [.map []])) := raw_makeMap (t := 75) (by kernel_rfl)
theorem raw12_9_2 {e : FEnv} {h : Heap} : iStep Tryd.prog pol 12 e h (.raw (opOf Tryd.prog 12 9 2)) = some (.val (.mp h.length) (h ++ [.map []])) := raw_makeMap (t := 76) (by kernel_rfl)
theorem raw12_13_8 {e : FEnv} {h : Heap} : iStep Tryd.prog pol 12 e h (.raw (opOf Tryd.prog 12 13 8)) = hOf (upV Tryd.prog 74 h (Src.get e (.v 65)) (Src.get e (.v 67)) (Src.get e (.v 68))) := raw_update (m := (.tmp 65)) (k := (.tmp 67)) (x := (.tmp 68)) (by kernel_rfl)
theorem raw12_16_2 {e : FEnv} {h : Heap} : iStep Tryd.prog pol 12 e h (.raw (opOf Tryd.prog 12 16 2)) = vOf h (binE Tryd.prog true 34 (.tmp 73) (.tmp 74) (Src.get e (.v 73)) (Src.get e (.v 74))) := raw_neq (x := (.tmp 73)) (y := (.tmp 74)) (s := 34) (by kernel_rfl)

noncomputable def il13l0b : C :=
  .seq (.seq (.ops ([
  ⟨some 5, none, none, .objs [], .mv (.v 3)⟩,
  ⟨some 6, none, none, .objs [], .mv (.v 0)⟩,
  ⟨some 7, none, none, .objs [], .lenS (.v 6)⟩,
  ⟨some 8, none, none, .objs [], .bin .lss false (.v 5) (.v 7)⟩])) <|
  .cond (.v 8) (.nop) (.exit 0)) <|
  .seq (.block 1 (.seq (.ops ([
    ⟨some 11, none, none, .objs [], .mv (.v 0)⟩,
    ⟨some 12, none, none, .objs [], .mv (.v 3)⟩,
    ⟨some 13, none, none, .objs [], .iaS 4 (.v 11) (.v 12)⟩,
    ⟨some 14, none, none, .objs [], .ld true 4 (.v 13)⟩,
    ⟨some 4, none, none, .objs [], .nw 4 (.agg [(.sc (.int .i64 0)), (.sc (.int .i64 0)), (.sc (.int .i64 0)), (.sc (.bool false))])⟩,
    ⟨none, none, none, .objs [], .st 4 (.v 4) (.v 14)⟩])) <|
    .seq (.opsD [] ([
    ⟨some 15, none, none, .objs [], .fa 0 (.v 4)⟩,
    ⟨some 16, none, none, .objs [(.v 15)], .ld false 1 (.v 15)⟩,
    ⟨some 17, none, none, .objs [], .bin .lss false (.v 16) (.c (.sc (.int .i64 1)))⟩,
    ⟨some 18, none, none, .objs [], .mv (.v 17)⟩] ++ mkL [0, 3, 4, 18] ([
    ⟨some 19, some (18, false), none, .objs [], .fa 0 (.v 4)⟩,
    ⟨some 20, some (18, false), none, .objs [(.v 19)], .ld false 1 (.v 19)⟩,
    ⟨some 21, some (18, false), none, .objs [], .bin .gtr false (.v 20) (.c (.sc (.int .i64 4095)))⟩,
    ⟨some 22, none, none, .objs [], .pk (.v 18) (.c (.sc (.bool true))) (.v 21)⟩,
    ⟨some 23, none, none, .objs [], .mv (.v 22)⟩,
    ⟨some 24, some (23, false), none, .objs [], .mv (.v 3)⟩,
    ⟨some 25, some (23, false), none, .objs [], .bin .gtr false (.v 24) (.c (.sc (.int .i64 0)))⟩,
    ⟨some 26, some (23, false), none, .objs [], .mv (.v 25)⟩,
    ⟨some 27, some (26, true), none, .objs [], .mv (.v 0)⟩,
    ⟨some 28, some (26, true), none, .objs [], .mv (.v 3)⟩,
    ⟨some 29, some (26, true), none, .objs [], .bin .sub false (.v 28) (.c (.sc (.int .i64 1)))⟩,
    ⟨some 30, some (26, true), none, .objs [], .iaS 4 (.v 27) (.v 29)⟩,
    ⟨some 31, some (26, true), none, .objs [], .fa 0 (.v 30)⟩,
    ⟨some 32, some (26, true), none, .objs [(.v 31)], .ld false 1 (.v 31)⟩] ++ mkL [0, 3, 4, 23, 26, 32] ([
    ⟨some 33, some (26, true), none, .objs [], .fa 0 (.v 4)⟩,
    ⟨some 34, some (26, true), none, .objs [(.v 33)], .ld false 1 (.v 33)⟩,
    ⟨some 35, some (26, true), none, .objs [], .bin .geq false (.v 32) (.v 34)⟩,
    ⟨some 36, some (23, false), none, .objs [], .pk (.v 26) (.v 35) (.c (.sc (.bool false)))⟩,
    ⟨some 37, none, none, .objs [], .pk (.v 23) (.c (.sc (.bool true))) (.v 36)⟩,
    ⟨some 38, none, none, .objs [], .mv (.v 37)⟩,
    ⟨some 39, some (38, false), none, .objs [], .fa 1 (.v 4)⟩,
    ⟨some 40, some (38, false), none, .objs [(.v 39)], .ld false 1 (.v 39)⟩,
    ⟨some 41, some (38, false), none, .objs [], .bin .lss false (.v 40) (.c (.sc (.int .i64 0)))⟩,
    ⟨some 42, none, none, .objs [], .pk (.v 38) (.c (.sc (.bool true))) (.v 41)⟩,
    ⟨some 43, none, none, .objs [], .mv (.v 42)⟩,
    ⟨some 44, some (43, false), none, .objs [], .fa 1 (.v 4)⟩,
    ⟨some 45, some (43, false), none, .objs [(.v 44)], .ld false 1 (.v 44)⟩,
    ⟨some 46, some (43, false), none, .objs [], .fa 2 (.v 4)⟩] ++ mkL [0, 3, 4, 43, 45, 46] ([
    ⟨some 47, some (43, false), none, .objs [(.v 46)], .ld false 1 (.v 46)⟩,
    ⟨some 48, some (43, false), none, .objs [], .bin .gtr false (.v 45) (.v 47)⟩,
    ⟨some 49, none, none, .objs [], .pk (.v 43) (.c (.sc (.bool true))) (.v 48)⟩,
    ⟨some 50, none, none, .objs [], .mv (.v 49)⟩,
    ⟨some 51, some (50, false), none, .objs [], .fa 2 (.v 4)⟩,
    ⟨some 52, some (50, false), none, .objs [(.v 51)], .ld false 1 (.v 51)⟩,
    ⟨some 53, some (50, false), none, .objs [], .bin .gtr false (.v 52) (.c (.sc (.int .i64 1099511627776)))⟩,
    ⟨some 54, none, none, .objs [], .pk (.v 50) (.c (.sc (.bool true))) (.v 53)⟩]))))) <|
    .cond (.v 54) (.seq (.ops ([
      ⟨some 2, none, none, .objs [], .mv (.c (.sc (.bool false)))⟩])) <|
      .ret) (.nop))) <|
  .ops ([
  ⟨some 9, none, none, .objs [], .mv (.v 3)⟩,
  ⟨some 10, none, none, .objs [], .bin .add false (.v 9) (.c (.sc (.int .i64 1)))⟩,
  ⟨some 3, none, none, .objs [], .mv (.v 10)⟩])
noncomputable def il13l0 : C := il13l0b
theorem il13l0_go {P : Program} {pol : Pol} {K : Oracle} {I : Inl} {n : Nat} {f : FuncId} {R : Xit → FEnv → Heap → Prop} {e : FEnv} {h : Heap} : wc P pol K I n f il13l0 R e h = wc P pol K I n f il13l0b R e h := (fun x => x) rfl

noncomputable def il13c : C :=
  .seq (.ops ([
  ⟨some 2, none, none, .objs [], .mv (.c (.sc (.bool false)))⟩])) <|
  .seq (.seq (.ops ([
  ⟨some 3, none, none, .objs [], .mv (.c (.sc (.int .i64 0)))⟩])) <|
  .block 0 (.loop (some [0, 3]) il13l0)) <|
  .seq (.ops ([
  ⟨some 55, none, none, .objs [], .mv (.v 0)⟩,
  ⟨some 56, none, none, .objs [], .lenS (.v 55)⟩,
  ⟨some 57, none, none, .objs [], .bin .leq false (.v 56) (.c (.sc (.int .i64 12)))⟩,
  ⟨some 2, none, none, .objs [], .mv (.v 57)⟩])) <|
  .ret

theorem il13_eq : cFn Tryd.prog pol 13 = some ⟨58, il13c, [(2, none)]⟩ := by kernel_rfl

noncomputable def il14l0b : C :=
  .seq (.seq (.ops ([
  ⟨some 5, none, none, .objs [], .mv (.v 3)⟩,
  ⟨some 6, none, none, .objs [], .mv (.v 0)⟩,
  ⟨some 7, none, none, .objs [], .lenS (.v 6)⟩,
  ⟨some 8, none, none, .objs [], .bin .lss false (.v 5) (.v 7)⟩])) <|
  .cond (.v 8) (.nop) (.exit 0)) <|
  .seq (.block 1 (.seq (.ops ([
    ⟨some 11, none, none, .objs [], .mv (.v 0)⟩,
    ⟨some 12, none, none, .objs [], .mv (.v 3)⟩,
    ⟨some 13, none, none, .objs [], .iaS 4 (.v 11) (.v 12)⟩,
    ⟨some 14, none, none, .objs [], .ld true 4 (.v 13)⟩,
    ⟨some 4, none, none, .objs [], .nw 4 (.agg [(.sc (.int .i64 0)), (.sc (.int .i64 0)), (.sc (.int .i64 0)), (.sc (.int .i64 0))])⟩,
    ⟨none, none, none, .objs [], .st 4 (.v 4) (.v 14)⟩])) <|
    .seq (.opsD [] ([
    ⟨some 15, none, none, .objs [], .fa 0 (.v 4)⟩,
    ⟨some 16, none, none, .objs [(.v 15)], .ld false 1 (.v 15)⟩,
    ⟨some 17, none, none, .objs [], .bin .neq false (.v 16) (.c (.sc (.int .i64 1)))⟩,
    ⟨some 18, none, none, .objs [], .mv (.v 17)⟩] ++ mkL [0, 3, 4, 18] ([
    ⟨some 19, some (18, true), none, .objs [], .fa 0 (.v 4)⟩,
    ⟨some 20, some (18, true), none, .objs [(.v 19)], .ld false 1 (.v 19)⟩,
    ⟨some 21, some (18, true), none, .objs [], .bin .neq false (.v 20) (.c (.sc (.int .i64 2)))⟩,
    ⟨some 22, none, none, .objs [], .pk (.v 18) (.v 21) (.c (.sc (.bool false)))⟩,
    ⟨some 23, none, none, .objs [], .mv (.v 22)⟩,
    ⟨some 24, some (23, false), none, .objs [], .fa 1 (.v 4)⟩,
    ⟨some 25, some (23, false), none, .objs [(.v 24)], .ld false 1 (.v 24)⟩,
    ⟨some 26, some (23, false), none, .objs [], .bin .lss false (.v 25) (.c (.sc (.int .i64 0)))⟩,
    ⟨some 27, none, none, .objs [], .pk (.v 23) (.c (.sc (.bool true))) (.v 26)⟩,
    ⟨some 28, none, none, .objs [], .mv (.v 27)⟩,
    ⟨some 29, some (28, false), none, .objs [], .fa 1 (.v 4)⟩,
    ⟨some 30, some (28, false), none, .objs [(.v 29)], .ld false 1 (.v 29)⟩,
    ⟨some 31, some (28, false), none, .objs [], .bin .gtr false (.v 30) (.c (.sc (.int .i64 4095)))⟩,
    ⟨some 32, none, none, .objs [], .pk (.v 28) (.c (.sc (.bool true))) (.v 31)⟩] ++ mkL [0, 3, 4, 32] ([
    ⟨some 33, none, none, .objs [], .mv (.v 32)⟩,
    ⟨some 34, some (33, false), none, .objs [], .fa 2 (.v 4)⟩,
    ⟨some 35, some (33, false), none, .objs [(.v 34)], .ld false 1 (.v 34)⟩,
    ⟨some 36, some (33, false), none, .objs [], .bin .lss false (.v 35) (.c (.sc (.int .i64 0)))⟩,
    ⟨some 37, none, none, .objs [], .pk (.v 33) (.c (.sc (.bool true))) (.v 36)⟩,
    ⟨some 38, none, none, .objs [], .mv (.v 37)⟩,
    ⟨some 39, some (38, false), none, .objs [], .fa 2 (.v 4)⟩,
    ⟨some 40, some (38, false), none, .objs [(.v 39)], .ld false 1 (.v 39)⟩,
    ⟨some 41, some (38, false), none, .objs [], .bin .gtr false (.v 40) (.c (.sc (.int .i64 65535)))⟩,
    ⟨some 42, none, none, .objs [], .pk (.v 38) (.c (.sc (.bool true))) (.v 41)⟩,
    ⟨some 43, none, none, .objs [], .mv (.v 42)⟩,
    ⟨some 44, some (43, false), none, .objs [], .fa 3 (.v 4)⟩,
    ⟨some 45, some (43, false), none, .objs [(.v 44)], .ld false 1 (.v 44)⟩,
    ⟨some 46, some (43, false), none, .objs [], .bin .lss false (.v 45) (.c (.sc (.int .i64 0)))⟩] ++ mkL [0, 3, 4, 43, 46] ([
    ⟨some 47, none, none, .objs [], .pk (.v 43) (.c (.sc (.bool true))) (.v 46)⟩,
    ⟨some 48, none, none, .objs [], .mv (.v 47)⟩,
    ⟨some 49, some (48, false), none, .objs [], .fa 3 (.v 4)⟩,
    ⟨some 50, some (48, false), none, .objs [(.v 49)], .ld false 1 (.v 49)⟩,
    ⟨some 51, some (48, false), none, .objs [], .bin .gtr false (.v 50) (.c (.sc (.int .i64 1099511627776)))⟩,
    ⟨some 52, none, none, .objs [], .pk (.v 48) (.c (.sc (.bool true))) (.v 51)⟩,
    ⟨some 53, none, none, .objs [], .mv (.v 52)⟩,
    ⟨some 54, some (53, false), none, .objs [], .mv (.v 3)⟩,
    ⟨some 55, some (53, false), none, .objs [], .bin .gtr false (.v 54) (.c (.sc (.int .i64 0)))⟩,
    ⟨some 56, some (53, false), none, .objs [], .mv (.v 55)⟩,
    ⟨some 57, some (56, true), none, .objs [], .mv (.v 0)⟩,
    ⟨some 58, some (56, true), none, .objs [], .mv (.v 3)⟩,
    ⟨some 59, some (56, true), none, .objs [], .bin .sub false (.v 58) (.c (.sc (.int .i64 1)))⟩,
    ⟨some 60, some (56, true), none, .objs [], .iaS 4 (.v 57) (.v 59)⟩] ++ mkL [0, 3, 4, 53, 56, 60] ([
    ⟨some 61, some (56, true), none, .objs [], .fa 3 (.v 60)⟩,
    ⟨some 62, some (56, true), none, .objs [(.v 61)], .ld false 1 (.v 61)⟩,
    ⟨some 63, some (56, true), none, .objs [], .fa 3 (.v 4)⟩,
    ⟨some 64, some (56, true), none, .objs [(.v 63)], .ld false 1 (.v 63)⟩,
    ⟨some 65, some (56, true), none, .objs [], .bin .gtr false (.v 62) (.v 64)⟩,
    ⟨some 66, some (53, false), none, .objs [], .pk (.v 56) (.v 65) (.c (.sc (.bool false)))⟩,
    ⟨some 67, none, none, .objs [], .pk (.v 53) (.c (.sc (.bool true))) (.v 66)⟩])))))) <|
    .cond (.v 67) (.seq (.ops ([
      ⟨some 2, none, none, .objs [], .mv (.c (.sc (.bool false)))⟩])) <|
      .ret) (.nop))) <|
  .ops ([
  ⟨some 9, none, none, .objs [], .mv (.v 3)⟩,
  ⟨some 10, none, none, .objs [], .bin .add false (.v 9) (.c (.sc (.int .i64 1)))⟩,
  ⟨some 3, none, none, .objs [], .mv (.v 10)⟩])
noncomputable def il14l0 : C := il14l0b
theorem il14l0_go {P : Program} {pol : Pol} {K : Oracle} {I : Inl} {n : Nat} {f : FuncId} {R : Xit → FEnv → Heap → Prop} {e : FEnv} {h : Heap} : wc P pol K I n f il14l0 R e h = wc P pol K I n f il14l0b R e h := (fun x => x) rfl

noncomputable def il14c : C :=
  .seq (.ops ([
  ⟨some 2, none, none, .objs [], .mv (.c (.sc (.bool false)))⟩])) <|
  .seq (.seq (.ops ([
  ⟨some 3, none, none, .objs [], .mv (.c (.sc (.int .i64 0)))⟩])) <|
  .block 0 (.loop (some [0, 3]) il14l0)) <|
  .seq (.ops ([
  ⟨some 68, none, none, .objs [], .mv (.v 0)⟩,
  ⟨some 69, none, none, .objs [], .lenS (.v 68)⟩,
  ⟨some 70, none, none, .objs [], .bin .leq false (.v 69) (.c (.sc (.int .i64 4096)))⟩,
  ⟨some 2, none, none, .objs [], .mv (.v 70)⟩])) <|
  .ret

theorem il14_eq : cFn Tryd.prog pol 14 = some ⟨71, il14c, [(2, none)]⟩ := by kernel_rfl

noncomputable def il15l0b : C :=
  .seq (.seq (.ops ([
  ⟨some 12, none, none, .objs [], .mv (.v 7)⟩,
  ⟨some 13, none, none, .objs [], .mv (.v 1)⟩,
  ⟨some 14, none, none, .objs [], .lenS (.v 13)⟩,
  ⟨some 15, none, none, .objs [], .bin .lss false (.v 12) (.v 14)⟩])) <|
  .cond (.v 15) (.nop) (.exit 0)) <|
  .seq (.block 1 (.seq (.ops ([
    ⟨some 18, none, none, .objs [], .mv (.v 0)⟩,
    ⟨some 19, none, none, .objs [], .mv (.v 1)⟩,
    ⟨some 20, none, none, .objs [], .mv (.v 7)⟩,
    ⟨some 21, none, none, .objs [], .call (.c (.fn (.func 32) [] [])) [(.v 18), (.v 19), (.v 20)]⟩,
    ⟨some 8, none, none, .objs [], .mv (.v 21)⟩])) <|
    .seq (.ops ([
    ⟨some 22, none, none, .objs [], .mv (.v 8)⟩,
    ⟨some 23, none, none, .objs [], .bin .neq false (.v 22) (.c (.sc (.int .i64 0)))⟩])) <|
    .cond (.v 23) (.seq (.opsD [] ([
      ⟨some 24, none, none, .objs [], .mv (.v 8)⟩,
      ⟨some 25, none, none, .objs [], .mv (.v 7)⟩,
      ⟨some 26, none, none, .objs [], .mv (.v 1)⟩] ++ mkL [1, 6, 7, 24, 25, 26] ([
      ⟨some 27, none, none, .objs [], .mv (.v 7)⟩,
      ⟨some 28, none, none, .objs [], .iaS 4 (.v 26) (.v 27)⟩,
      ⟨some 29, none, none, .objs [], .fa 1 (.v 28)⟩,
      ⟨some 30, none, none, .objs [(.v 29)], .ld false 1 (.v 29)⟩,
      ⟨some 31, none, none, .objs [], .mv (.v 1)⟩,
      ⟨some 32, none, none, .objs [], .mv (.v 7)⟩,
      ⟨some 33, none, none, .objs [], .iaS 4 (.v 31) (.v 32)⟩,
      ⟨some 34, none, none, .objs [], .fa 2 (.v 33)⟩,
      ⟨some 35, none, none, .objs [(.v 34)], .ld false 1 (.v 34)⟩,
      ⟨some 36, none, none, .objs [], .bd [(.sc (.int .i64 0)), (.sc (.int .i64 0)), (.sc (.int .i64 0)), (.sc (.int .i64 0))] [(0, 1, (.v 24)), (1, 1, (.v 25)), (2, 1, (.v 30)), (3, 1, (.v 35))]⟩,
      ⟨none, none, none, .objs [(.v 6)], .st 4 (.v 6) (.v 36)⟩]))) <|
      .ret) (.nop))) <|
  .ops ([
  ⟨some 16, none, none, .objs [], .mv (.v 7)⟩,
  ⟨some 17, none, none, .objs [], .bin .add false (.v 16) (.c (.sc (.int .i64 1)))⟩,
  ⟨some 7, none, none, .objs [], .mv (.v 17)⟩])
noncomputable def il15l0 : C := il15l0b
theorem il15l0_go {P : Program} {pol : Pol} {K : Oracle} {I : Inl} {n : Nat} {f : FuncId} {R : Xit → FEnv → Heap → Prop} {e : FEnv} {h : Heap} : wc P pol K I n f il15l0 R e h = wc P pol K I n f il15l0b R e h := (fun x => x) rfl

noncomputable def il15l1b : C :=
  .seq (.seq (.ops ([
  ⟨some 37, none, none, .objs [], .mv (.v 9)⟩,
  ⟨some 38, none, none, .objs [], .mv (.v 1)⟩,
  ⟨some 39, none, none, .objs [], .lenS (.v 38)⟩,
  ⟨some 40, none, none, .objs [], .bin .lss false (.v 37) (.v 39)⟩])) <|
  .cond (.v 40) (.nop) (.exit 2)) <|
  .seq (.block 3 (.seq (.ops ([
    ⟨some 44, none, none, .objs [], .mv (.v 0)⟩,
    ⟨some 45, none, none, .objs [], .mv (.v 1)⟩,
    ⟨some 46, none, none, .objs [], .mv (.v 9)⟩,
    ⟨some 47, none, none, .objs [], .iaS 4 (.v 45) (.v 46)⟩,
    ⟨some 48, none, none, .objs [], .fa 1 (.v 47)⟩,
    ⟨some 49, none, none, .objs [], .ld false 1 (.v 48)⟩,
    ⟨some 50, none, none, .objs [], .call (.c (.fn (.func 33) [] [])) [(.v 44), (.v 49)]⟩,
    ⟨some 43, none, none, .objs [], .mv (.v 50)⟩,
    ⟨some 51, none, none, .objs [], .ex (.v 43) 0⟩,
    ⟨some 52, none, none, .objs [], .ex (.v 43) 1⟩] ++ mkL [0, 1, 2, 6, 9, 51, 52] ([
    ⟨some 10, none, none, .objs [], .nw 4 (.agg [(.sc (.int .i64 0)), (.sc (.int .i64 0)), (.sc (.int .i64 0)), (.sc (.bool false))])⟩,
    ⟨none, none, none, .objs [], .st 4 (.v 10) (.v 51)⟩,
    ⟨some 11, none, none, .objs [], .mv (.v 52)⟩]))) <|
    .seq (.opsD [] ([
    ⟨some 53, none, none, .objs [], .mv (.v 1)⟩,
    ⟨some 54, none, none, .objs [], .mv (.v 9)⟩,
    ⟨some 55, none, none, .objs [], .iaS 4 (.v 53) (.v 54)⟩,
    ⟨some 56, none, none, .objs [], .fa 0 (.v 55)⟩,
    ⟨some 57, none, none, .objs [(.v 56)], .ld false 1 (.v 56)⟩,
    ⟨some 58, none, none, .objs [], .bin .eql false (.v 57) (.c (.sc (.int .i64 1)))⟩,
    ⟨some 59, none, none, .objs [], .mv (.v 58)⟩,
    ⟨some 60, some (59, true), none, .objs [], .mv (.v 1)⟩,
    ⟨some 61, some (59, true), none, .objs [], .mv (.v 1)⟩,
    ⟨some 62, some (59, true), none, .objs [(.v 61)], .lenS (.v 61)⟩,
    ⟨some 63, some (59, true), none, .objs [], .mv (.v 1)⟩] ++ mkL [0, 1, 2, 6, 9, 10, 59, 60, 62, 63] ([
    ⟨some 64, some (59, true), none, .objs [], .mv (.v 9)⟩,
    ⟨some 65, some (59, true), none, .objs [], .iaS 4 (.v 63) (.v 64)⟩,
    ⟨some 66, some (59, true), none, .objs [], .fa 1 (.v 65)⟩,
    ⟨some 67, some (59, true), none, .objs [(.v 66)], .ld false 1 (.v 66)⟩,
    ⟨some 68, some (59, true), none, .objs [], .mv (.v 1)⟩,
    ⟨some 69, some (59, true), none, .objs [], .mv (.v 9)⟩,
    ⟨some 70, some (59, true), none, .objs [], .iaS 4 (.v 68) (.v 69)⟩,
    ⟨some 71, some (59, true), none, .objs [], .fa 2 (.v 70)⟩,
    ⟨some 72, some (59, true), none, .objs [(.v 71)], .ld false 1 (.v 71)⟩,
    ⟨some 73, some (59, true), none, .cal (.c (.fn (.func 34) [] [])) [(.v 60), (.v 62), (.c (.sc (.int .i64 2))), (.v 67), (.v 72)], .call (.c (.fn (.func 34) [] [])) [(.v 60), (.v 62), (.c (.sc (.int .i64 2))), (.v 67), (.v 72)]⟩,
    ⟨some 74, some (59, true), none, .objs [], .bin .lss false (.v 73) (.c (.sc (.int .i64 0)))⟩,
    ⟨some 75, none, none, .objs [], .pk (.v 59) (.v 74) (.c (.sc (.bool false)))⟩,
    ⟨some 76, none, none, .objs [], .mv (.v 75)⟩,
    ⟨some 77, some (76, true), none, .objs [], .mv (.v 1)⟩] ++ mkL [0, 1, 2, 6, 9, 10, 76, 77] ([
    ⟨some 78, some (76, true), none, .objs [], .mv (.v 9)⟩,
    ⟨some 79, some (76, true), none, .objs [], .iaS 4 (.v 77) (.v 78)⟩,
    ⟨some 80, some (76, true), none, .objs [], .fa 3 (.v 79)⟩,
    ⟨some 81, some (76, true), none, .objs [(.v 80)], .ld false 1 (.v 80)⟩,
    ⟨some 82, some (76, true), none, .objs [], .fa 2 (.v 10)⟩,
    ⟨some 83, some (76, true), none, .objs [(.v 82)], .ld false 1 (.v 82)⟩,
    ⟨some 84, some (76, true), none, .objs [], .bin .add false (.v 81) (.v 83)⟩,
    ⟨some 85, some (76, true), none, .objs [], .mv (.v 2)⟩,
    ⟨some 86, some (76, true), none, .objs [], .bin .leq false (.v 84) (.v 85)⟩,
    ⟨some 87, none, none, .objs [], .pk (.v 76) (.v 86) (.c (.sc (.bool false)))⟩])))) <|
    .cond (.v 87) (.seq (.opsD [] ([
      ⟨some 88, none, none, .objs [], .mv (.v 9)⟩,
      ⟨some 89, none, none, .objs [], .mv (.v 1)⟩,
      ⟨some 90, none, none, .objs [], .mv (.v 9)⟩,
      ⟨some 91, none, none, .objs [], .iaS 4 (.v 89) (.v 90)⟩] ++ mkL [1, 6, 9, 88, 91] ([
      ⟨some 92, none, none, .objs [], .fa 1 (.v 91)⟩,
      ⟨some 93, none, none, .objs [(.v 92)], .ld false 1 (.v 92)⟩,
      ⟨some 94, none, none, .objs [], .mv (.v 1)⟩,
      ⟨some 95, none, none, .objs [], .mv (.v 9)⟩,
      ⟨some 96, none, none, .objs [], .iaS 4 (.v 94) (.v 95)⟩,
      ⟨some 97, none, none, .objs [], .fa 2 (.v 96)⟩,
      ⟨some 98, none, none, .objs [(.v 97)], .ld false 1 (.v 97)⟩,
      ⟨some 99, none, none, .objs [], .bd [(.sc (.int .i64 0)), (.sc (.int .i64 0)), (.sc (.int .i64 0)), (.sc (.int .i64 0))] [(0, 1, (.c (.sc (.int .i64 8)))), (1, 1, (.v 88)), (2, 1, (.v 93)), (3, 1, (.v 98))]⟩,
      ⟨none, none, none, .objs [(.v 6)], .st 4 (.v 6) (.v 99)⟩]))) <|
      .ret) (.nop))) <|
  .ops ([
  ⟨some 41, none, none, .objs [], .mv (.v 9)⟩,
  ⟨some 42, none, none, .objs [], .bin .add false (.v 41) (.c (.sc (.int .i64 1)))⟩,
  ⟨some 9, none, none, .objs [], .mv (.v 42)⟩])
noncomputable def il15l1 : C := il15l1b
theorem il15l1_go {P : Program} {pol : Pol} {K : Oracle} {I : Inl} {n : Nat} {f : FuncId} {R : Xit → FEnv → Heap → Prop} {e : FEnv} {h : Heap} : wc P pol K I n f il15l1 R e h = wc P pol K I n f il15l1b R e h := (fun x => x) rfl

noncomputable def il15c : C :=
  .seq (.ops ([
  ⟨some 6, none, none, .objs [], .nw 4 (.agg [(.sc (.int .i64 0)), (.sc (.int .i64 0)), (.sc (.int .i64 0)), (.sc (.int .i64 0))])⟩])) <|
  .seq (.seq (.ops ([
  ⟨some 7, none, none, .objs [], .mv (.c (.sc (.int .i64 0)))⟩])) <|
  .block 0 (.loop (some [0, 1, 2, 6, 7]) il15l0)) <|
  .seq (.seq (.ops ([
  ⟨some 9, none, none, .objs [], .mv (.c (.sc (.int .i64 0)))⟩])) <|
  .block 2 (.loop (some [0, 1, 2, 6, 9]) il15l1)) <|
  .seq (.ops ([
  ⟨some 100, none, none, .objs [], .bd [(.sc (.int .i64 0)), (.sc (.int .i64 0)), (.sc (.int .i64 0)), (.sc (.int .i64 0))] []⟩,
  ⟨none, none, none, .objs [], .st 4 (.v 6) (.v 100)⟩])) <|
  .ret

theorem il15_eq : cFn Tryd.prog pol 15 = some ⟨101, il15c, [(6, some (true, 4))]⟩ := by kernel_rfl

noncomputable def il22c : C :=
  .seq (.ops ([
  ⟨some 2, none, none, .objs [], .mv (.c (.sc (.int .i64 0)))⟩])) <|
  .seq (.seq (.ops ([
  ⟨some 3, none, none, .objs [], .mv (.v 0)⟩,
  ⟨some 4, none, none, .objs [], .lenS (.v 3)⟩,
  ⟨some 5, none, none, .objs [], .bin .eql false (.v 4) (.c (.sc (.int .i64 0)))⟩])) <|
  .cond (.v 5) (.seq (.ops ([
    ⟨some 2, none, none, .objs [], .mv (.c (.sc (.int .i64 0)))⟩])) <|
    .ret) (.nop)) <|
  .seq (.ops ([
  ⟨some 6, none, none, .objs [], .mv (.v 0)⟩,
  ⟨some 7, none, none, .objs [], .mv (.v 0)⟩,
  ⟨some 8, none, none, .objs [], .lenS (.v 7)⟩,
  ⟨some 9, none, none, .objs [], .bin .sub false (.v 8) (.c (.sc (.int .i64 1)))⟩,
  ⟨some 10, none, none, .objs [], .iaS 4 (.v 6) (.v 9)⟩,
  ⟨some 11, none, none, .objs [], .fa 3 (.v 10)⟩,
  ⟨some 12, none, none, .objs [], .ld false 1 (.v 11)⟩,
  ⟨some 2, none, none, .objs [], .mv (.v 12)⟩])) <|
  .ret

theorem il22_eq : cFn Tryd.prog pol 22 = some ⟨13, il22c, [(2, none)]⟩ := by kernel_rfl

noncomputable def il26l0b : C :=
  .seq (.ops ([
  ⟨some 12, none, none, .objs [], .bin .lss false (.v 11) (.v 10)⟩])) <|
  .seq (.cond (.v 12) (.nop) (.exit 0)) <|
  .seq (.block 1 (.seq (.ops ([
    ⟨some 13, none, none, .objs [], .iaS 4 (.v 9) (.v 11)⟩,
    ⟨some 14, none, none, .objs [], .ld true 4 (.v 13)⟩,
    ⟨some 5, none, none, .objs [], .nw 4 (.agg [(.sc (.int .i64 0)), (.sc (.int .i64 0)), (.sc (.int .i64 0)), (.sc (.bool false))])⟩,
    ⟨none, none, none, .objs [], .st 4 (.v 5) (.v 14)⟩])) <|
    .seq (.seq (.ops ([
    ⟨some 15, none, none, .objs [], .fa 0 (.v 5)⟩,
    ⟨some 16, none, none, .objs [], .ld false 1 (.v 15)⟩,
    ⟨some 17, none, none, .objs [], .mv (.v 3)⟩,
    ⟨some 18, none, none, .objs [], .bin .leq false (.v 16) (.v 17)⟩,
    ⟨some 19, none, none, .objs [], .mv (.v 18)⟩,
    ⟨some 20, some (19, false), none, .objs [], .fa 0 (.v 5)⟩,
    ⟨some 21, some (19, false), none, .objs [], .ld false 1 (.v 20)⟩,
    ⟨some 22, some (19, false), none, .objs [], .bin .gtr false (.v 21) (.c (.sc (.int .i64 4095)))⟩,
    ⟨some 23, none, none, .objs [], .pk (.v 19) (.c (.sc (.bool true))) (.v 22)⟩] ++ mkL [5, 9, 10, 11, 23] ([
    ⟨some 24, none, none, .objs [], .mv (.v 23)⟩,
    ⟨some 25, some (24, false), none, .objs [], .fa 1 (.v 5)⟩,
    ⟨some 26, some (24, false), none, .objs [], .ld false 1 (.v 25)⟩,
    ⟨some 27, some (24, false), none, .objs [], .bin .lss false (.v 26) (.c (.sc (.int .i64 0)))⟩,
    ⟨some 28, none, none, .objs [], .pk (.v 24) (.c (.sc (.bool true))) (.v 27)⟩,
    ⟨some 29, none, none, .objs [], .mv (.v 28)⟩,
    ⟨some 30, some (29, false), none, .objs [], .fa 1 (.v 5)⟩,
    ⟨some 31, some (29, false), none, .objs [], .ld false 1 (.v 30)⟩,
    ⟨some 32, some (29, false), none, .objs [], .fa 2 (.v 5)⟩,
    ⟨some 33, some (29, false), none, .objs [], .ld false 1 (.v 32)⟩,
    ⟨some 34, some (29, false), none, .objs [], .bin .gtr false (.v 31) (.v 33)⟩,
    ⟨some 35, none, none, .objs [], .pk (.v 29) (.c (.sc (.bool true))) (.v 34)⟩,
    ⟨some 36, none, none, .objs [], .mv (.v 35)⟩,
    ⟨some 37, some (36, false), none, .objs [], .fa 2 (.v 5)⟩] ++ mkL [5, 9, 10, 11, 36, 37] ([
    ⟨some 38, some (36, false), none, .objs [], .ld false 1 (.v 37)⟩,
    ⟨some 39, some (36, false), none, .objs [], .bin .gtr false (.v 38) (.c (.sc (.int .i64 1099511627776)))⟩,
    ⟨some 40, none, none, .objs [], .pk (.v 36) (.c (.sc (.bool true))) (.v 39)⟩])))) <|
    .cond (.v 40) (.seq (.ops ([
      ⟨some 2, none, none, .objs [], .mv (.c (.sc (.int .i64 541)))⟩])) <|
      .ret) (.nop)) <|
    .ops ([
    ⟨some 41, none, none, .objs [], .fa 0 (.v 5)⟩,
    ⟨some 42, none, none, .objs [], .ld false 1 (.v 41)⟩,
    ⟨some 3, none, none, .objs [], .mv (.v 42)⟩]))) <|
  .ops ([
  ⟨some 43, none, none, .objs [], .bin .add false (.v 11) (.c (.sc (.int .i64 1)))⟩,
  ⟨some 11, none, none, .objs [], .mv (.v 43)⟩])
noncomputable def il26l0 : C := il26l0b
theorem il26l0_go {P : Program} {pol : Pol} {K : Oracle} {I : Inl} {n : Nat} {f : FuncId} {R : Xit → FEnv → Heap → Prop} {e : FEnv} {h : Heap} : wc P pol K I n f il26l0 R e h = wc P pol K I n f il26l0b R e h := (fun x => x) rfl

noncomputable def il26c : C :=
  .seq (.ops ([
  ⟨some 2, none, none, .objs [], .mv (.c (.sc (.int .i64 0)))⟩])) <|
  .seq (.seq (.ops ([
  ⟨some 6, none, none, .objs [], .mv (.v 0)⟩,
  ⟨some 7, none, none, .objs [], .lenS (.v 6)⟩,
  ⟨some 8, none, none, .objs [], .bin .gtr false (.v 7) (.c (.sc (.int .i64 12)))⟩])) <|
  .cond (.v 8) (.seq (.ops ([
    ⟨some 2, none, none, .objs [], .mv (.c (.sc (.int .i64 541)))⟩])) <|
    .ret) (.nop)) <|
  .seq (.ops ([
  ⟨some 3, none, none, .objs [], .mv (.c (.sc (.int .i64 0)))⟩])) <|
  .seq (.seq (.ops ([
  ⟨some 9, none, none, .objs [], .mv (.v 0)⟩,
  ⟨some 10, none, none, .objs [], .lenS (.v 9)⟩,
  ⟨some 11, none, none, .objs [], .mv (.c (.sc (.int .i64 0)))⟩])) <|
  .block 0 (.loop (some [3, 9, 10, 11]) il26l0)) <|
  .seq (.ops ([
  ⟨some 2, none, none, .objs [], .mv (.c (.sc (.int .i64 0)))⟩])) <|
  .ret

theorem il26_eq : cFn Tryd.prog pol 26 = some ⟨44, il26c, [(2, none)]⟩ := by kernel_rfl

noncomputable def il27c : C :=
  .seq (.ops ([
  ⟨some 2, none, none, .objs [], .mv (.c (.sc (.slice none 0 0)))⟩])) <|
  .seq (.seq (.ops ([
  ⟨some 3, none, none, .objs [], .mv (.v 0)⟩,
  ⟨some 4, none, none, .objs [], .raw (opOf Tryd.prog 27 1 1)⟩])) <|
  .cond (.v 4) (.seq (.ops ([
    ⟨some 2, none, none, .objs [], .mv (.c (.sc (.slice none 0 0)))⟩])) <|
    .ret) (.nop)) <|
  .seq (.ops ([
  ⟨some 5, none, none, .objs [], .bs false 4 (.agg [(.sc (.int .i64 0)), (.sc (.int .i64 0)), (.sc (.int .i64 0)), (.sc (.bool false))]) 0 []⟩,
  ⟨some 6, none, none, .objs [], .mv (.v 0)⟩,
  ⟨some 7, none, none, .objs [], .app 4 32 (.v 5) (.v 6)⟩,
  ⟨some 2, none, none, .objs [], .mv (.v 7)⟩])) <|
  .ret

theorem il27_eq : cFn Tryd.prog pol 27 = some ⟨8, il27c, [(2, none)]⟩ := by kernel_rfl
theorem raw27_1_1 {e : FEnv} {h : Heap} : iStep Tryd.prog pol 27 e h (.raw (opOf Tryd.prog 27 1 1)) = vOf h (binE Tryd.prog false 22 (.tmp 3) (.const (.slice none 0 0)) (Src.get e (.v 3)) (Src.get e (.c (.sc (.slice none 0 0))))) := raw_eql (x := (.tmp 3)) (y := (.const (.slice none 0 0))) (s := 22) (by kernel_rfl)

noncomputable def il28c : C :=
  .seq (.ops ([
  ⟨some 2, none, none, .objs [], .mv (.c (.sc (.slice none 0 0)))⟩])) <|
  .seq (.seq (.ops ([
  ⟨some 3, none, none, .objs [], .mv (.v 0)⟩,
  ⟨some 4, none, none, .objs [], .raw (opOf Tryd.prog 28 1 1)⟩])) <|
  .cond (.v 4) (.seq (.ops ([
    ⟨some 2, none, none, .objs [], .mv (.c (.sc (.slice none 0 0)))⟩])) <|
    .ret) (.nop)) <|
  .seq (.ops ([
  ⟨some 5, none, none, .objs [], .bs false 4 (.agg [(.sc (.int .i64 0)), (.sc (.int .i64 0)), (.sc (.int .i64 0)), (.sc (.int .i64 0))]) 0 []⟩,
  ⟨some 6, none, none, .objs [], .mv (.v 0)⟩,
  ⟨some 7, none, none, .objs [], .app 4 32 (.v 5) (.v 6)⟩,
  ⟨some 2, none, none, .objs [], .mv (.v 7)⟩])) <|
  .ret

theorem il28_eq : cFn Tryd.prog pol 28 = some ⟨8, il28c, [(2, none)]⟩ := by kernel_rfl
theorem raw28_1_1 {e : FEnv} {h : Heap} : iStep Tryd.prog pol 28 e h (.raw (opOf Tryd.prog 28 1 1)) = vOf h (binE Tryd.prog false 23 (.tmp 3) (.const (.slice none 0 0)) (Src.get e (.v 3)) (Src.get e (.c (.sc (.slice none 0 0))))) := raw_eql (x := (.tmp 3)) (y := (.const (.slice none 0 0))) (s := 23) (by kernel_rfl)

noncomputable def il29l0b : C :=
  .seq (.ops ([
  ⟨some 12, none, none, .objs [], .bin .lss false (.v 11) (.v 10)⟩])) <|
  .seq (.cond (.v 12) (.nop) (.exit 0)) <|
  .seq (.block 1 (.seq (.ops ([
    ⟨some 13, none, none, .objs [], .iaS 4 (.v 9) (.v 11)⟩,
    ⟨some 14, none, none, .objs [], .ld true 4 (.v 13)⟩,
    ⟨some 5, none, none, .objs [], .nw 4 (.agg [(.sc (.int .i64 0)), (.sc (.int .i64 0)), (.sc (.int .i64 0)), (.sc (.int .i64 0))])⟩,
    ⟨none, none, none, .objs [], .st 4 (.v 5) (.v 14)⟩])) <|
    .seq (.seq (.ops ([
    ⟨some 15, none, none, .objs [], .fa 0 (.v 5)⟩,
    ⟨some 16, none, none, .objs [], .ld false 1 (.v 15)⟩,
    ⟨some 17, none, none, .objs [], .bin .neq false (.v 16) (.c (.sc (.int .i64 1)))⟩,
    ⟨some 18, none, none, .objs [], .mv (.v 17)⟩,
    ⟨some 19, some (18, true), none, .objs [], .fa 0 (.v 5)⟩,
    ⟨some 20, some (18, true), none, .objs [], .ld false 1 (.v 19)⟩,
    ⟨some 21, some (18, true), none, .objs [], .bin .neq false (.v 20) (.c (.sc (.int .i64 2)))⟩,
    ⟨some 22, none, none, .objs [], .pk (.v 18) (.v 21) (.c (.sc (.bool false)))⟩,
    ⟨some 23, none, none, .objs [], .mv (.v 22)⟩] ++ mkL [3, 5, 9, 10, 11, 23] ([
    ⟨some 24, some (23, false), none, .objs [], .fa 1 (.v 5)⟩,
    ⟨some 25, some (23, false), none, .objs [], .ld false 1 (.v 24)⟩,
    ⟨some 26, some (23, false), none, .objs [], .bin .lss false (.v 25) (.c (.sc (.int .i64 0)))⟩,
    ⟨some 27, none, none, .objs [], .pk (.v 23) (.c (.sc (.bool true))) (.v 26)⟩,
    ⟨some 28, none, none, .objs [], .mv (.v 27)⟩,
    ⟨some 29, some (28, false), none, .objs [], .fa 1 (.v 5)⟩,
    ⟨some 30, some (28, false), none, .objs [], .ld false 1 (.v 29)⟩,
    ⟨some 31, some (28, false), none, .objs [], .bin .gtr false (.v 30) (.c (.sc (.int .i64 4095)))⟩,
    ⟨some 32, none, none, .objs [], .pk (.v 28) (.c (.sc (.bool true))) (.v 31)⟩,
    ⟨some 33, none, none, .objs [], .mv (.v 32)⟩,
    ⟨some 34, some (33, false), none, .objs [], .fa 2 (.v 5)⟩,
    ⟨some 35, some (33, false), none, .objs [], .ld false 1 (.v 34)⟩,
    ⟨some 36, some (33, false), none, .objs [], .bin .lss false (.v 35) (.c (.sc (.int .i64 0)))⟩,
    ⟨some 37, none, none, .objs [], .pk (.v 33) (.c (.sc (.bool true))) (.v 36)⟩] ++ mkL [3, 5, 9, 10, 11, 37] ([
    ⟨some 38, none, none, .objs [], .mv (.v 37)⟩,
    ⟨some 39, some (38, false), none, .objs [], .fa 2 (.v 5)⟩,
    ⟨some 40, some (38, false), none, .objs [], .ld false 1 (.v 39)⟩,
    ⟨some 41, some (38, false), none, .objs [], .bin .geq false (.v 40) (.c (.sc (.int .i64 65536)))⟩,
    ⟨some 42, none, none, .objs [], .pk (.v 38) (.c (.sc (.bool true))) (.v 41)⟩,
    ⟨some 43, none, none, .objs [], .mv (.v 42)⟩,
    ⟨some 44, some (43, false), none, .objs [], .fa 3 (.v 5)⟩,
    ⟨some 45, some (43, false), none, .objs [], .ld false 1 (.v 44)⟩,
    ⟨some 46, some (43, false), none, .objs [], .mv (.v 3)⟩,
    ⟨some 47, some (43, false), none, .objs [], .bin .lss false (.v 45) (.v 46)⟩,
    ⟨some 48, none, none, .objs [], .pk (.v 43) (.c (.sc (.bool true))) (.v 47)⟩,
    ⟨some 49, none, none, .objs [], .mv (.v 48)⟩,
    ⟨some 50, some (49, false), none, .objs [], .fa 3 (.v 5)⟩,
    ⟨some 51, some (49, false), none, .objs [], .ld false 1 (.v 50)⟩] ++ mkL [5, 9, 10, 11, 49, 51] ([
    ⟨some 52, some (49, false), none, .objs [], .bin .gtr false (.v 51) (.c (.sc (.int .i64 1099511627776)))⟩,
    ⟨some 53, none, none, .objs [], .pk (.v 49) (.c (.sc (.bool true))) (.v 52)⟩]))))) <|
    .cond (.v 53) (.seq (.ops ([
      ⟨some 2, none, none, .objs [], .mv (.c (.sc (.int .i64 540)))⟩])) <|
      .ret) (.nop)) <|
    .ops ([
    ⟨some 54, none, none, .objs [], .fa 3 (.v 5)⟩,
    ⟨some 55, none, none, .objs [], .ld false 1 (.v 54)⟩,
    ⟨some 3, none, none, .objs [], .mv (.v 55)⟩]))) <|
  .ops ([
  ⟨some 56, none, none, .objs [], .bin .add false (.v 11) (.c (.sc (.int .i64 1)))⟩,
  ⟨some 11, none, none, .objs [], .mv (.v 56)⟩])
noncomputable def il29l0 : C := il29l0b
theorem il29l0_go {P : Program} {pol : Pol} {K : Oracle} {I : Inl} {n : Nat} {f : FuncId} {R : Xit → FEnv → Heap → Prop} {e : FEnv} {h : Heap} : wc P pol K I n f il29l0 R e h = wc P pol K I n f il29l0b R e h := (fun x => x) rfl

noncomputable def il29c : C :=
  .seq (.ops ([
  ⟨some 2, none, none, .objs [], .mv (.c (.sc (.int .i64 0)))⟩])) <|
  .seq (.seq (.ops ([
  ⟨some 6, none, none, .objs [], .mv (.v 0)⟩,
  ⟨some 7, none, none, .objs [], .lenS (.v 6)⟩,
  ⟨some 8, none, none, .objs [], .bin .gtr false (.v 7) (.c (.sc (.int .i64 4096)))⟩])) <|
  .cond (.v 8) (.seq (.ops ([
    ⟨some 2, none, none, .objs [], .mv (.c (.sc (.int .i64 540)))⟩])) <|
    .ret) (.nop)) <|
  .seq (.ops ([
  ⟨some 3, none, none, .objs [], .mv (.c (.sc (.int .i64 0)))⟩])) <|
  .seq (.seq (.ops ([
  ⟨some 9, none, none, .objs [], .mv (.v 0)⟩,
  ⟨some 10, none, none, .objs [], .lenS (.v 9)⟩,
  ⟨some 11, none, none, .objs [], .mv (.c (.sc (.int .i64 0)))⟩])) <|
  .block 0 (.loop (some [3, 9, 10, 11]) il29l0)) <|
  .seq (.ops ([
  ⟨some 2, none, none, .objs [], .mv (.c (.sc (.int .i64 0)))⟩])) <|
  .ret

theorem il29_eq : cFn Tryd.prog pol 29 = some ⟨57, il29c, [(2, none)]⟩ := by kernel_rfl

noncomputable def il30l0b : C :=
  .seq (.ops ([
  ⟨some 22, none, none, .objs [], .bin .lss false (.v 21) (.c (.sc (.int .i64 7)))⟩])) <|
  .seq (.cond (.v 22) (.nop) (.exit 2)) <|
  .seq (.block 3 (.seq (.ops ([
    ⟨some 23, none, none, .objs [], .ixA true 2 7 2 (.v 20) (.v 21)⟩,
    ⟨some 10, none, none, .objs [], .nw 2 (.agg [(.sc (.int .i64 0)), (.sc .nilFunc)])⟩,
    ⟨none, none, none, .objs [], .st 2 (.v 10) (.v 23)⟩])) <|
    .seq (.ops ([
    ⟨some 24, none, none, .objs [], .fa 1 (.v 10)⟩,
    ⟨some 25, none, none, .objs [], .ld false 1 (.v 24)⟩,
    ⟨some 26, none, none, .objs [], .ld true 4 (.v 8)⟩,
    ⟨some 27, none, none, .objs [], .call (.v 25) [(.v 26)]⟩])) <|
    .cond (.v 27) (.seq (.ops ([
      ⟨some 28, none, none, .objs [], .fa 0 (.v 10)⟩,
      ⟨some 29, none, none, .objs [], .ld false 1 (.v 28)⟩,
      ⟨some 30, none, none, .objs [], .mv (.v 7)⟩,
      ⟨some 31, none, none, .objs [], .fa 1 (.v 8)⟩,
      ⟨some 32, none, none, .objs [], .ld false 1 (.v 31)⟩,
      ⟨some 33, none, none, .objs [], .fa 2 (.v 8)⟩] ++ mkL [4, 5, 29, 30, 32, 33] ([
      ⟨some 34, none, none, .objs [], .ld false 1 (.v 33)⟩,
      ⟨some 35, none, none, .objs [], .bd [(.sc (.int .i64 0)), (.sc (.int .i64 0)), (.sc (.int .i64 0)), (.sc (.int .i64 0))] [(0, 1, (.v 29)), (1, 1, (.v 30)), (2, 1, (.v 32)), (3, 1, (.v 34))]⟩,
      ⟨none, none, none, .objs [], .st 4 (.v 5) (.v 35)⟩]))) <|
      .exit 0) (.nop))) <|
  .ops ([
  ⟨some 36, none, none, .objs [], .bin .add false (.v 21) (.c (.sc (.int .i64 1)))⟩,
  ⟨some 21, none, none, .objs [], .mv (.v 36)⟩])
noncomputable def il30l0 : C := il30l0b
theorem il30l0_go {P : Program} {pol : Pol} {K : Oracle} {I : Inl} {n : Nat} {f : FuncId} {R : Xit → FEnv → Heap → Prop} {e : FEnv} {h : Heap} : wc P pol K I n f il30l0 R e h = wc P pol K I n f il30l0b R e h := (fun x => x) rfl

noncomputable def il30l1b : C :=
  .seq (.ops ([
  ⟨some 16, none, none, .objs [], .bin .lss false (.v 15) (.v 14)⟩])) <|
  .seq (.cond (.v 16) (.nop) (.exit 0)) <|
  .seq (.block 1 (.seq (.ops ([
    ⟨some 17, none, none, .objs [], .mv (.v 15)⟩,
    ⟨some 18, none, none, .objs [], .iaS 4 (.v 13) (.v 15)⟩,
    ⟨some 19, none, none, .objs [], .ld true 4 (.v 18)⟩,
    ⟨some 8, none, none, .objs [], .nw 4 (.agg [(.sc (.int .i64 0)), (.sc (.int .i64 0)), (.sc (.int .i64 0)), (.sc (.int .i64 0))])⟩,
    ⟨some 7, none, none, .objs [], .mv (.v 17)⟩,
    ⟨none, none, none, .objs [], .st 4 (.v 8) (.v 19)⟩])) <|
    .seq (.seq (.ops ([
    ⟨some 20, none, none, .objs [], .ld true 14 (.v 6)⟩,
    ⟨some 21, none, none, .objs [], .mv (.c (.sc (.int .i64 0)))⟩])) <|
    .block 2 (.loop (some [0, 4, 5, 6, 7, 8, 13, 14, 15, 20, 21]) il30l0)) <|
    .ops ([
    ⟨some 37, none, none, .objs [], .mv (.v 0)⟩,
    ⟨some 38, none, none, .objs [], .mv (.v 7)⟩,
    ⟨some 39, none, none, .objs [], .ld true 4 (.v 8)⟩,
    ⟨some 40, none, none, .objs [], .call (.c (.fn (.func 40) [] [])) [(.v 37), (.v 38), (.v 39)]⟩]))) <|
  .ops ([
  ⟨some 41, none, none, .objs [], .bin .add false (.v 15) (.c (.sc (.int .i64 1)))⟩,
  ⟨some 15, none, none, .objs [], .mv (.v 41)⟩])
noncomputable def il30l1 : C := il30l1b
theorem il30l1_go {P : Program} {pol : Pol} {K : Oracle} {I : Inl} {n : Nat} {f : FuncId} {R : Xit → FEnv → Heap → Prop} {e : FEnv} {h : Heap} : wc P pol K I n f il30l1 R e h = wc P pol K I n f il30l1b R e h := (fun x => x) rfl

noncomputable def il30c : C :=
  .seq (.ops ([
  ⟨some 4, none, none, .objs [], .nw 4 (.agg [(.sc (.int .i64 0)), (.sc (.int .i64 0)), (.sc (.int .i64 0)), (.sc (.int .i64 0))])⟩])) <|
  .seq (.ops ([
  ⟨some 5, none, none, .objs [], .nw 4 (.agg [(.sc (.int .i64 0)), (.sc (.int .i64 0)), (.sc (.int .i64 0)), (.sc (.int .i64 0))])⟩])) <|
  .seq (.ops ([
  ⟨some 11, none, none, .objs [], .mv (.v 0)⟩,
  ⟨some 12, none, none, .objs [], .call (.c (.fn (.func 39) [] [])) [(.v 11)]⟩,
  ⟨some 6, none, none, .objs [], .nw 14 (.agg [(.sc (.int .i64 0)), (.sc .nilFunc), (.sc (.int .i64 0)), (.sc .nilFunc), (.sc (.int .i64 0)), (.sc .nilFunc), (.sc (.int .i64 0)), (.sc .nilFunc), (.sc (.int .i64 0)), (.sc .nilFunc), (.sc (.int .i64 0)), (.sc .nilFunc), (.sc (.int .i64 0)), (.sc .nilFunc)])⟩,
  ⟨none, none, none, .objs [], .st 14 (.v 6) (.v 12)⟩])) <|
  .seq (.nop) <|
  .seq (.seq (.ops ([
  ⟨some 13, none, none, .objs [], .mv (.v 1)⟩,
  ⟨some 14, none, none, .objs [], .lenS (.v 13)⟩,
  ⟨some 15, none, none, .objs [], .mv (.c (.sc (.int .i64 0)))⟩])) <|
  .block 0 (.loop (some [0, 4, 5, 6, 13, 14, 15]) il30l1)) <|
  .seq (.ops ([
  ⟨some 42, none, none, .objs [], .ld true 4 (.v 5)⟩,
  ⟨none, none, none, .objs [], .st 4 (.v 4) (.v 42)⟩])) <|
  .ret

theorem il30_eq : cFn Tryd.prog pol 30 = some ⟨43, il30c, [(4, some (true, 4))]⟩ := by kernel_rfl

noncomputable def il31l0b : C :=
  .seq (.ops ([
  ⟨some 12, none, none, .objs [], .bin .lss false (.v 11) (.v 10)⟩])) <|
  .seq (.cond (.v 12) (.nop) (.exit 0)) <|
  .seq (.block 1 (.seq (.ops ([
    ⟨some 13, none, none, .objs [], .mv (.v 11)⟩,
    ⟨some 14, none, none, .objs [], .iaS 4 (.v 9) (.v 11)⟩,
    ⟨some 15, none, none, .objs [], .ld true 4 (.v 14)⟩,
    ⟨some 8, none, none, .objs [], .nw 4 (.agg [(.sc (.int .i64 0)), (.sc (.int .i64 0)), (.sc (.int .i64 0)), (.sc (.int .i64 0))])⟩,
    ⟨some 7, none, none, .objs [], .mv (.v 13)⟩,
    ⟨none, none, none, .objs [], .st 4 (.v 8) (.v 15)⟩])) <|
    .seq (.opsD [(8, 10)] ([
    ⟨some 16, none, none, .objs [], .fa 0 (.v 8)⟩,
    ⟨some 17, none, none, .objs [(.v 16)], .ld false 1 (.v 16)⟩,
    ⟨some 18, none, none, .objs [], .bin .eql false (.v 17) (.c (.sc (.int .i64 1)))⟩,
    ⟨some 19, none, none, .objs [], .mv (.v 18)⟩,
    ⟨some 20, some (19, true), none, .objs [], .mv (.v 0)⟩,
    ⟨some 21, some (19, true), none, .objs [], .nc (.v 20)⟩,
    ⟨some 22, some (19, true), none, .objs [], .fa 0 (.v 21)⟩] ++ mkL [0, 2, 6, 7, 8, 9, 10, 11, 19, 22] ([
    ⟨some 23, some (19, true), none, .objs [], .fa 1 (.v 22)⟩,
    ⟨some 24, some (19, true), none, .objs [(.v 23)], .ld false 1 (.v 23)⟩,
    ⟨some 25, some (19, true), none, .objs [(.v 8)], .ld true 4 (.v 8)⟩,
    ⟨some 26, some (19, true), none, .cal (.c (.fn (.func 35) [] [])) [(.v 25)], .call (.c (.fn (.func 35) [] [])) [(.v 25)]⟩,
    ⟨some 27, some (19, true), none, .objs [(.v 24)], .raw (opOf Tryd.prog 31 4 11)⟩,
    ⟨some 28, some (19, true), none, .objs [], .fd false 1 1 (.v 27)⟩,
    ⟨some 29, some (19, true), none, .objs [], .nt (.v 28)⟩,
    ⟨some 30, none, none, .objs [], .pk (.v 19) (.v 29) (.c (.sc (.bool false)))⟩,
    ⟨some 31, none, none, .objs [], .mv (.v 30)⟩,
    ⟨some 32, some (31, true), none, .objs [], .fa 3 (.v 8)⟩,
    ⟨some 33, some (31, true), none, .objs [(.v 32)], .ld false 1 (.v 32)⟩,
    ⟨some 34, some (31, true), none, .objs [], .mv (.v 0)⟩,
    ⟨some 35, some (31, true), none, .objs [], .nc (.v 34)⟩,
    ⟨some 36, some (31, true), none, .objs [], .fa 0 (.v 35)⟩] ++ mkL [0, 2, 6, 7, 8, 9, 10, 11, 31, 33, 36] ([
    ⟨some 37, some (31, true), none, .objs [], .fa 0 (.v 36)⟩,
    ⟨some 38, some (31, true), none, .objs [(.v 37)], .ld false 1 (.v 37)⟩,
    ⟨some 39, some (31, true), none, .objs [], .fa 1 (.v 8)⟩,
    ⟨some 40, some (31, true), none, .objs [(.v 39)], .ld false 1 (.v 39)⟩,
    ⟨some 41, some (31, true), none, .objs [(.v 38)], .raw (opOf Tryd.prog 31 4 25)⟩,
    ⟨some 42, some (31, true), none, .objs [], .fd false 1 2 (.v 41)⟩,
    ⟨some 43, some (31, true), none, .objs [], .bin .add false (.v 33) (.v 42)⟩,
    ⟨some 44, some (31, true), none, .objs [], .mv (.v 2)⟩,
    ⟨some 45, some (31, true), none, .objs [], .bin .leq false (.v 43) (.v 44)⟩,
    ⟨some 46, none, none, .objs [], .pk (.v 31) (.v 45) (.c (.sc (.bool false)))⟩])))) <|
    .cond (.v 46) (.seq (.ops ([
      ⟨some 47, none, none, .objs [], .mv (.v 7)⟩,
      ⟨some 48, none, none, .objs [], .fa 1 (.v 8)⟩,
      ⟨some 49, none, none, .objs [], .ld false 1 (.v 48)⟩,
      ⟨some 50, none, none, .objs [], .fa 2 (.v 8)⟩] ++ mkL [6, 47, 49, 50] ([
      ⟨some 51, none, none, .objs [], .ld false 1 (.v 50)⟩,
      ⟨some 52, none, none, .objs [], .bd [(.sc (.int .i64 0)), (.sc (.int .i64 0)), (.sc (.int .i64 0)), (.sc (.int .i64 0))] [(0, 1, (.c (.sc (.int .i64 8)))), (1, 1, (.v 47)), (2, 1, (.v 49)), (3, 1, (.v 51))]⟩,
      ⟨none, none, none, .objs [], .st 4 (.v 6) (.v 52)⟩]))) <|
      .ret) (.nop))) <|
  .ops ([
  ⟨some 53, none, none, .objs [], .bin .add false (.v 11) (.c (.sc (.int .i64 1)))⟩,
  ⟨some 11, none, none, .objs [], .mv (.v 53)⟩])
noncomputable def il31l0 : C := il31l0b
theorem il31l0_go {P : Program} {pol : Pol} {K : Oracle} {I : Inl} {n : Nat} {f : FuncId} {R : Xit → FEnv → Heap → Prop} {e : FEnv} {h : Heap} : wc P pol K I n f il31l0 R e h = wc P pol K I n f il31l0b R e h := (fun x => x) rfl

noncomputable def il31c : C :=
  .seq (.ops ([
  ⟨some 6, none, none, .objs [], .nw 4 (.agg [(.sc (.int .i64 0)), (.sc (.int .i64 0)), (.sc (.int .i64 0)), (.sc (.int .i64 0))])⟩])) <|
  .seq (.seq (.ops ([
  ⟨some 9, none, none, .objs [], .mv (.v 1)⟩,
  ⟨some 10, none, none, .objs [], .lenS (.v 9)⟩,
  ⟨some 11, none, none, .objs [], .mv (.c (.sc (.int .i64 0)))⟩])) <|
  .block 0 (.loop (some [0, 2, 6, 9, 10, 11]) il31l0)) <|
  .seq (.ops ([
  ⟨some 54, none, none, .objs [], .bd [(.sc (.int .i64 0)), (.sc (.int .i64 0)), (.sc (.int .i64 0)), (.sc (.int .i64 0))] []⟩,
  ⟨none, none, none, .objs [], .st 4 (.v 6) (.v 54)⟩])) <|
  .ret

theorem il31_eq : cFn Tryd.prog pol 31 = some ⟨55, il31c, [(6, some (true, 4))]⟩ := by kernel_rfl
theorem raw31_4_11 {e : FEnv} {h : Heap} : iStep Tryd.prog pol 31 e h (.raw (opOf Tryd.prog 31 4 11)) = vOf h (lkV Tryd.prog 75 false h (Src.get e (.v 24)) (Src.get e (.v 26))) := raw_lookup (x := (.tmp 24)) (ix := (.tmp 26)) (by kernel_rfl)
theorem raw31_4_25 {e : FEnv} {h : Heap} : iStep Tryd.prog pol 31 e h (.raw (opOf Tryd.prog 31 4 25)) = vOf h (lkV Tryd.prog 74 false h (Src.get e (.v 38)) (Src.get e (.v 40))) := raw_lookup (x := (.tmp 38)) (ix := (.tmp 40)) (by kernel_rfl)

noncomputable def il32l0b : C :=
  .seq (.seq (.ops ([
  ⟨some 69, none, none, .objs [], .mv (.v 11)⟩,
  ⟨some 70, none, none, .objs [], .mv (.v 2)⟩,
  ⟨some 71, none, none, .objs [], .bin .lss false (.v 69) (.v 70)⟩])) <|
  .cond (.v 71) (.nop) (.exit 0)) <|
  .seq (.block 1 (.seq (.opsD [] ([
    ⟨some 74, none, none, .objs [], .fa 3 (.v 8)⟩,
    ⟨some 75, none, none, .objs [(.v 74)], .ld false 1 (.v 74)⟩,
    ⟨some 76, none, none, .objs [], .mv (.v 75)⟩,
    ⟨some 77, some (76, true), none, .objs [], .mv (.v 1)⟩,
    ⟨some 78, some (76, true), none, .objs [], .mv (.v 11)⟩,
    ⟨some 79, some (76, true), none, .objs [], .iaS 4 (.v 77) (.v 78)⟩,
    ⟨some 80, some (76, true), none, .objs [], .fa 0 (.v 79)⟩,
    ⟨some 81, some (76, true), none, .objs [(.v 80)], .ld false 1 (.v 80)⟩,
    ⟨some 82, some (76, true), none, .objs [], .bin .eql false (.v 81) (.c (.sc (.int .i64 2)))⟩,
    ⟨some 83, none, none, .objs [], .pk (.v 76) (.v 82) (.c (.sc (.bool false)))⟩,
    ⟨some 84, none, none, .objs [], .mv (.v 83)⟩] ++ mkL [1, 2, 7, 8, 10, 11, 84] ([
    ⟨some 85, some (84, true), none, .objs [], .mv (.v 1)⟩,
    ⟨some 86, some (84, true), none, .objs [], .mv (.v 11)⟩,
    ⟨some 87, some (84, true), none, .objs [], .iaS 4 (.v 85) (.v 86)⟩,
    ⟨some 88, some (84, true), none, .objs [], .fa 1 (.v 87)⟩,
    ⟨some 89, some (84, true), none, .objs [(.v 88)], .ld false 1 (.v 88)⟩,
    ⟨some 90, some (84, true), none, .objs [], .fa 1 (.v 7)⟩,
    ⟨some 91, some (84, true), none, .objs [(.v 90)], .ld false 1 (.v 90)⟩,
    ⟨some 92, some (84, true), none, .objs [], .bin .eql false (.v 89) (.v 91)⟩,
    ⟨some 93, none, none, .objs [], .pk (.v 84) (.v 92) (.c (.sc (.bool false)))⟩,
    ⟨some 94, none, none, .objs [], .mv (.v 93)⟩,
    ⟨some 95, some (94, true), none, .objs [], .mv (.v 1)⟩,
    ⟨some 96, some (94, true), none, .objs [], .mv (.v 2)⟩,
    ⟨some 97, some (94, true), none, .objs [], .fa 1 (.v 7)⟩,
    ⟨some 98, some (94, true), none, .objs [(.v 97)], .ld false 1 (.v 97)⟩] ++ mkL [1, 2, 7, 8, 10, 11, 94, 95, 96, 98] ([
    ⟨some 99, some (94, true), none, .objs [], .mv (.v 1)⟩,
    ⟨some 100, some (94, true), none, .objs [], .mv (.v 11)⟩,
    ⟨some 101, some (94, true), none, .objs [], .iaS 4 (.v 99) (.v 100)⟩,
    ⟨some 102, some (94, true), none, .objs [], .fa 2 (.v 101)⟩,
    ⟨some 103, some (94, true), none, .objs [(.v 102)], .ld false 1 (.v 102)⟩,
    ⟨some 104, some (94, true), none, .cal (.c (.fn (.func 34) [] [])) [(.v 95), (.v 96), (.c (.sc (.int .i64 1))), (.v 98), (.v 103)], .call (.c (.fn (.func 34) [] [])) [(.v 95), (.v 96), (.c (.sc (.int .i64 1))), (.v 98), (.v 103)]⟩,
    ⟨some 105, some (94, true), none, .objs [], .mv (.v 10)⟩,
    ⟨some 106, some (94, true), none, .objs [], .bin .gtr false (.v 104) (.v 105)⟩,
    ⟨some 107, none, none, .objs [], .pk (.v 94) (.v 106) (.c (.sc (.bool false)))⟩])))) <|
    .cond (.v 107) (.seq (.ops ([
      ⟨some 6, none, none, .objs [], .mv (.c (.sc (.int .i64 7)))⟩])) <|
      .ret) (.nop))) <|
  .ops ([
  ⟨some 72, none, none, .objs [], .mv (.v 11)⟩,
  ⟨some 73, none, none, .objs [], .bin .add false (.v 72) (.c (.sc (.int .i64 1)))⟩,
  ⟨some 11, none, none, .objs [], .mv (.v 73)⟩])
noncomputable def il32l0 : C := il32l0b
theorem il32l0_go {P : Program} {pol : Pol} {K : Oracle} {I : Inl} {n : Nat} {f : FuncId} {R : Xit → FEnv → Heap → Prop} {e : FEnv} {h : Heap} : wc P pol K I n f il32l0 R e h = wc P pol K I n f il32l0b R e h := (fun x => x) rfl

noncomputable def il32c : C :=
  .seq (.ops ([
  ⟨some 6, none, none, .objs [], .mv (.c (.sc (.int .i64 0)))⟩])) <|
  .seq (.ops ([
  ⟨some 12, none, none, .objs [], .mv (.v 1)⟩,
  ⟨some 13, none, none, .objs [], .mv (.v 2)⟩,
  ⟨some 14, none, none, .objs [], .iaS 4 (.v 12) (.v 13)⟩,
  ⟨some 15, none, none, .objs [], .ld true 4 (.v 14)⟩,
  ⟨some 7, none, none, .objs [], .nw 4 (.agg [(.sc (.int .i64 0)), (.sc (.int .i64 0)), (.sc (.int .i64 0)), (.sc (.int .i64 0))])⟩,
  ⟨none, none, none, .objs [], .st 4 (.v 7) (.v 15)⟩])) <|
  .seq (.ops ([
  ⟨some 17, none, none, .objs [], .mv (.v 0)⟩,
  ⟨some 18, none, none, .objs [], .fa 1 (.v 7)⟩,
  ⟨some 19, none, none, .objs [], .ld false 1 (.v 18)⟩,
  ⟨some 20, none, none, .objs [], .call (.c (.fn (.func 33) [] [])) [(.v 17), (.v 19)]⟩,
  ⟨some 16, none, none, .objs [], .mv (.v 20)⟩,
  ⟨some 21, none, none, .objs [], .ex (.v 16) 0⟩,
  ⟨some 22, none, none, .objs [], .ex (.v 16) 1⟩] ++ mkL [1, 2, 7, 21, 22] ([
  ⟨some 8, none, none, .objs [], .nw 4 (.agg [(.sc (.int .i64 0)), (.sc (.int .i64 0)), (.sc (.int .i64 0)), (.sc (.bool false))])⟩,
  ⟨none, none, none, .objs [], .st 4 (.v 8) (.v 21)⟩,
  ⟨some 9, none, none, .objs [], .mv (.v 22)⟩]))) <|
  .seq (.seq (.ops ([
  ⟨some 23, none, none, .objs [], .mv (.v 9)⟩,
  ⟨some 24, none, none, .objs [], .nt (.v 23)⟩])) <|
  .cond (.v 24) (.seq (.ops ([
    ⟨some 6, none, none, .objs [], .mv (.c (.sc (.int .i64 1)))⟩])) <|
    .ret) (.nop)) <|
  .seq (.ops ([
  ⟨some 25, none, none, .objs [], .mv (.v 1)⟩,
  ⟨some 26, none, none, .objs [], .mv (.v 2)⟩,
  ⟨some 27, none, none, .objs [], .fa 1 (.v 7)⟩,
  ⟨some 28, none, none, .objs [], .ld false 1 (.v 27)⟩,
  ⟨some 29, none, none, .objs [], .fa 2 (.v 7)⟩,
  ⟨some 30, none, none, .objs [], .ld false 1 (.v 29)⟩,
  ⟨some 31, none, none, .objs [], .call (.c (.fn (.func 34) [] [])) [(.v 25), (.v 26), (.c (.sc (.int .i64 1))), (.v 28), (.v 30)]⟩,
  ⟨some 10, none, none, .objs [], .mv (.v 31)⟩])) <| mkC [1, 2, 7, 8, 10] <|
  .seq (.seq (.ops ([
  ⟨some 32, none, none, .objs [], .fa 0 (.v 7)⟩,
  ⟨some 33, none, none, .objs [], .ld false 1 (.v 32)⟩,
  ⟨some 34, none, none, .objs [], .bin .eql false (.v 33) (.c (.sc (.int .i64 1)))⟩])) <|
  .cond (.v 34) (.seq (.seq (.ops ([
    ⟨some 35, none, none, .objs [], .mv (.v 10)⟩,
    ⟨some 36, none, none, .objs [], .bin .geq false (.v 35) (.c (.sc (.int .i64 0)))⟩])) <|
    .cond (.v 36) (.seq (.ops ([
      ⟨some 6, none, none, .objs [], .mv (.c (.sc (.int .i64 2)))⟩])) <|
      .ret) (.nop)) <|
    .seq (.ops ([
    ⟨some 6, none, none, .objs [], .mv (.c (.sc (.int .i64 0)))⟩])) <|
    .ret) (.nop)) <|
  .seq (.seq (.ops ([
  ⟨some 37, none, none, .objs [], .mv (.v 10)⟩,
  ⟨some 38, none, none, .objs [], .bin .lss false (.v 37) (.c (.sc (.int .i64 0)))⟩])) <|
  .cond (.v 38) (.seq (.ops ([
    ⟨some 6, none, none, .objs [], .mv (.c (.sc (.int .i64 3)))⟩])) <|
    .ret) (.nop)) <|
  .seq (.seq (.ops ([
  ⟨some 39, none, none, .objs [], .mv (.v 1)⟩,
  ⟨some 40, none, none, .objs [], .mv (.v 2)⟩,
  ⟨some 41, none, none, .objs [], .fa 1 (.v 7)⟩,
  ⟨some 42, none, none, .objs [], .ld false 1 (.v 41)⟩] ++ mkL [1, 2, 7, 8, 10, 39, 40, 42] ([
  ⟨some 43, none, none, .objs [], .fa 2 (.v 7)⟩,
  ⟨some 44, none, none, .objs [], .ld false 1 (.v 43)⟩,
  ⟨some 45, none, none, .objs [], .call (.c (.fn (.func 34) [] [])) [(.v 39), (.v 40), (.c (.sc (.int .i64 2))), (.v 42), (.v 44)]⟩,
  ⟨some 46, none, none, .objs [], .bin .geq false (.v 45) (.c (.sc (.int .i64 0)))⟩]))) <|
  .cond (.v 46) (.seq (.ops ([
    ⟨some 6, none, none, .objs [], .mv (.c (.sc (.int .i64 4)))⟩])) <|
    .ret) (.nop)) <|
  .seq (.seq (.opsD [] ([
  ⟨some 47, none, none, .objs [], .fa 3 (.v 7)⟩,
  ⟨some 48, none, none, .objs [(.v 47)], .ld false 1 (.v 47)⟩,
  ⟨some 49, none, none, .objs [], .mv (.v 1)⟩,
  ⟨some 50, none, none, .objs [], .mv (.v 10)⟩,
  ⟨some 51, none, none, .objs [], .iaS 4 (.v 49) (.v 50)⟩,
  ⟨some 52, none, none, .objs [], .fa 3 (.v 51)⟩,
  ⟨some 53, none, none, .objs [(.v 52)], .ld false 1 (.v 52)⟩,
  ⟨some 54, none, none, .objs [], .bin .sub false (.v 48) (.v 53)⟩,
  ⟨some 55, none, none, .objs [], .fa 1 (.v 8)⟩] ++ mkL [1, 2, 7, 8, 10, 54, 55] ([
  ⟨some 56, none, none, .objs [(.v 55)], .ld false 1 (.v 55)⟩,
  ⟨some 57, none, none, .objs [], .bin .lss false (.v 54) (.v 56)⟩]))) <|
  .cond (.v 57) (.seq (.ops ([
    ⟨some 6, none, none, .objs [], .mv (.c (.sc (.int .i64 5)))⟩])) <|
    .ret) (.nop)) <|
  .seq (.seq (.opsD [] ([
  ⟨some 58, none, none, .objs [], .fa 3 (.v 7)⟩,
  ⟨some 59, none, none, .objs [(.v 58)], .ld false 1 (.v 58)⟩,
  ⟨some 60, none, none, .objs [], .mv (.v 1)⟩,
  ⟨some 61, none, none, .objs [], .mv (.v 10)⟩,
  ⟨some 62, none, none, .objs [], .iaS 4 (.v 60) (.v 61)⟩,
  ⟨some 63, none, none, .objs [], .fa 3 (.v 62)⟩,
  ⟨some 64, none, none, .objs [(.v 63)], .ld false 1 (.v 63)⟩,
  ⟨some 65, none, none, .objs [], .bin .sub false (.v 59) (.v 64)⟩,
  ⟨some 66, none, none, .objs [], .fa 2 (.v 8)⟩,
  ⟨some 67, none, none, .objs [(.v 66)], .ld false 1 (.v 66)⟩,
  ⟨some 68, none, none, .objs [], .bin .gtr false (.v 65) (.v 67)⟩])) <| mkC [1, 2, 7, 8, 10, 68] <|
  .cond (.v 68) (.seq (.ops ([
    ⟨some 6, none, none, .objs [], .mv (.c (.sc (.int .i64 6)))⟩])) <|
    .ret) (.nop)) <|
  .seq (.seq (.ops ([
  ⟨some 11, none, none, .objs [], .mv (.c (.sc (.int .i64 0)))⟩])) <|
  .block 0 (.loop (some [1, 2, 7, 8, 10, 11]) il32l0)) <|
  .seq (.ops ([
  ⟨some 6, none, none, .objs [], .mv (.c (.sc (.int .i64 0)))⟩])) <|
  .ret

theorem il32_eq : cFn Tryd.prog pol 32 = some ⟨108, il32c, [(6, none)]⟩ := by kernel_rfl

noncomputable def il33l0b : C :=
  .seq (.seq (.ops ([
  ⟨some 7, none, none, .objs [], .mv (.v 6)⟩,
  ⟨some 8, none, none, .objs [], .mv (.v 0)⟩,
  ⟨some 9, none, none, .objs [], .lenS (.v 8)⟩,
  ⟨some 10, none, none, .objs [], .bin .lss false (.v 7) (.v 9)⟩])) <|
  .cond (.v 10) (.nop) (.exit 0)) <|
  .seq (.block 1 (.seq (.ops ([
    ⟨some 13, none, none, .objs [], .mv (.v 0)⟩,
    ⟨some 14, none, none, .objs [], .mv (.v 6)⟩,
    ⟨some 15, none, none, .objs [], .iaS 4 (.v 13) (.v 14)⟩,
    ⟨some 16, none, none, .objs [], .fa 0 (.v 15)⟩,
    ⟨some 17, none, none, .objs [], .ld false 1 (.v 16)⟩,
    ⟨some 18, none, none, .objs [], .mv (.v 1)⟩,
    ⟨some 19, none, none, .objs [], .bin .eql false (.v 17) (.v 18)⟩])) <|
    .cond (.v 19) (.seq (.ops ([
      ⟨some 20, none, none, .objs [], .mv (.v 0)⟩,
      ⟨some 21, none, none, .objs [], .mv (.v 6)⟩,
      ⟨some 22, none, none, .objs [], .iaS 4 (.v 20) (.v 21)⟩] ++ mkL [4, 22] ([
      ⟨some 23, none, none, .objs [], .ld true 4 (.v 22)⟩,
      ⟨none, none, none, .objs [], .st 4 (.v 4) (.v 23)⟩,
      ⟨some 5, none, none, .objs [], .mv (.c (.sc (.bool true)))⟩]))) <|
      .ret) (.nop))) <|
  .ops ([
  ⟨some 11, none, none, .objs [], .mv (.v 6)⟩,
  ⟨some 12, none, none, .objs [], .bin .add false (.v 11) (.c (.sc (.int .i64 1)))⟩,
  ⟨some 6, none, none, .objs [], .mv (.v 12)⟩])
noncomputable def il33l0 : C := il33l0b
theorem il33l0_go {P : Program} {pol : Pol} {K : Oracle} {I : Inl} {n : Nat} {f : FuncId} {R : Xit → FEnv → Heap → Prop} {e : FEnv} {h : Heap} : wc P pol K I n f il33l0 R e h = wc P pol K I n f il33l0b R e h := (fun x => x) rfl

noncomputable def il33c : C :=
  .seq (.ops ([
  ⟨some 4, none, none, .objs [], .nw 4 (.agg [(.sc (.int .i64 0)), (.sc (.int .i64 0)), (.sc (.int .i64 0)), (.sc (.bool false))])⟩,
  ⟨some 5, none, none, .objs [], .mv (.c (.sc (.bool false)))⟩])) <|
  .seq (.seq (.ops ([
  ⟨some 6, none, none, .objs [], .mv (.c (.sc (.int .i64 0)))⟩])) <|
  .block 0 (.loop (some [0, 1, 4, 6]) il33l0)) <|
  .seq (.ops ([
  ⟨some 24, none, none, .objs [], .bd [(.sc (.int .i64 0)), (.sc (.int .i64 0)), (.sc (.int .i64 0)), (.sc (.bool false))] []⟩,
  ⟨none, none, none, .objs [], .st 4 (.v 4) (.v 24)⟩,
  ⟨some 5, none, none, .objs [], .mv (.c (.sc (.bool false)))⟩])) <|
  .ret

theorem il33_eq : cFn Tryd.prog pol 33 = some ⟨25, il33c, [(4, some (true, 4)), (5, none)]⟩ := by kernel_rfl

noncomputable def il34l0b : C :=
  .seq (.seq (.ops ([
  ⟨some 12, none, none, .objs [], .mv (.v 11)⟩,
  ⟨some 13, none, none, .objs [], .mv (.v 1)⟩,
  ⟨some 14, none, none, .objs [], .bin .lss false (.v 12) (.v 13)⟩])) <|
  .cond (.v 14) (.nop) (.exit 0)) <|
  .seq (.block 1 (.seq (.ops ([
    ⟨some 17, none, none, .objs [], .mv (.v 0)⟩,
    ⟨some 18, none, none, .objs [], .mv (.v 11)⟩,
    ⟨some 19, none, none, .objs [], .iaS 4 (.v 17) (.v 18)⟩,
    ⟨some 20, none, none, .objs [], .fa 0 (.v 19)⟩,
    ⟨some 21, none, none, .objs [], .ld false 1 (.v 20)⟩,
    ⟨some 22, none, none, .objs [], .mv (.v 2)⟩,
    ⟨some 23, none, none, .objs [], .bin .eql false (.v 21) (.v 22)⟩,
    ⟨some 24, none, none, .objs [], .mv (.v 23)⟩,
    ⟨some 25, some (24, true), none, .objs [], .mv (.v 0)⟩,
    ⟨some 26, some (24, true), none, .objs [], .mv (.v 11)⟩,
    ⟨some 27, some (24, true), none, .objs [], .iaS 4 (.v 25) (.v 26)⟩] ++ mkL [0, 1, 2, 3, 4, 11, 24, 27] ([
    ⟨some 28, some (24, true), none, .objs [], .fa 1 (.v 27)⟩,
    ⟨some 29, some (24, true), none, .objs [], .ld false 1 (.v 28)⟩,
    ⟨some 30, some (24, true), none, .objs [], .mv (.v 3)⟩,
    ⟨some 31, some (24, true), none, .objs [], .bin .eql false (.v 29) (.v 30)⟩,
    ⟨some 32, none, none, .objs [], .pk (.v 24) (.v 31) (.c (.sc (.bool false)))⟩,
    ⟨some 33, none, none, .objs [], .mv (.v 32)⟩,
    ⟨some 34, some (33, true), none, .objs [], .mv (.v 0)⟩,
    ⟨some 35, some (33, true), none, .objs [], .mv (.v 11)⟩,
    ⟨some 36, some (33, true), none, .objs [], .iaS 4 (.v 34) (.v 35)⟩,
    ⟨some 37, some (33, true), none, .objs [], .fa 2 (.v 36)⟩,
    ⟨some 38, some (33, true), none, .objs [], .ld false 1 (.v 37)⟩,
    ⟨some 39, some (33, true), none, .objs [], .mv (.v 4)⟩,
    ⟨some 40, some (33, true), none, .objs [], .bin .eql false (.v 38) (.v 39)⟩,
    ⟨some 41, none, none, .objs [], .pk (.v 33) (.v 40) (.c (.sc (.bool false)))⟩]))) <| mkC [0, 1, 2, 3, 4, 11, 41] <|
    .cond (.v 41) (.seq (.ops ([
      ⟨some 42, none, none, .objs [], .mv (.v 11)⟩,
      ⟨some 10, none, none, .objs [], .mv (.v 42)⟩])) <|
      .ret) (.nop))) <|
  .ops ([
  ⟨some 15, none, none, .objs [], .mv (.v 11)⟩,
  ⟨some 16, none, none, .objs [], .bin .add false (.v 15) (.c (.sc (.int .i64 1)))⟩,
  ⟨some 11, none, none, .objs [], .mv (.v 16)⟩])
noncomputable def il34l0 : C := il34l0b
theorem il34l0_go {P : Program} {pol : Pol} {K : Oracle} {I : Inl} {n : Nat} {f : FuncId} {R : Xit → FEnv → Heap → Prop} {e : FEnv} {h : Heap} : wc P pol K I n f il34l0 R e h = wc P pol K I n f il34l0b R e h := (fun x => x) rfl

noncomputable def il34c : C :=
  .seq (.ops ([
  ⟨some 10, none, none, .objs [], .mv (.c (.sc (.int .i64 0)))⟩])) <|
  .seq (.seq (.ops ([
  ⟨some 11, none, none, .objs [], .mv (.c (.sc (.int .i64 0)))⟩])) <|
  .block 0 (.loop (some [0, 1, 2, 3, 4, 11]) il34l0)) <|
  .seq (.ops ([
  ⟨some 10, none, none, .objs [], .mv (.c (.sc (.int .i64 (-1))))⟩])) <|
  .ret

theorem il34_eq : cFn Tryd.prog pol 34 = some ⟨43, il34c, [(10, none)]⟩ := by kernel_rfl

noncomputable def il35c : C :=
  .seq (.ops ([
  ⟨some 1, none, none, .objs [], .bx false (.v 0)⟩,
  ⟨some 2, none, none, .objs [], .nw 2 (.agg [(.sc (.int .i64 0)), (.sc (.int .i64 0))])⟩])) <|
  .seq (.ops ([
  ⟨some 3, none, none, .objs [], .fa 1 (.v 1)⟩,
  ⟨some 4, none, none, .objs [], .ld false 1 (.v 3)⟩,
  ⟨some 5, none, none, .objs [], .fa 2 (.v 1)⟩,
  ⟨some 6, none, none, .objs [], .ld false 1 (.v 5)⟩,
  ⟨some 7, none, none, .objs [], .bd [(.sc (.int .i64 0)), (.sc (.int .i64 0))] [(0, 1, (.v 4)), (1, 1, (.v 6))]⟩,
  ⟨none, none, none, .objs [], .st 2 (.v 2) (.v 7)⟩])) <|
  .ret

theorem il35_eq : cFn Tryd.prog pol 35 = some ⟨8, il35c, [(2, some (true, 2))]⟩ := by kernel_rfl

noncomputable def il39c : C :=
  .seq (.ops ([
  ⟨some 1, none, none, .objs [], .bx false (.v 0)⟩,
  ⟨some 2, none, none, .objs [], .nw 14 (.agg [(.sc (.int .i64 0)), (.sc .nilFunc), (.sc (.int .i64 0)), (.sc .nilFunc), (.sc (.int .i64 0)), (.sc .nilFunc), (.sc (.int .i64 0)), (.sc .nilFunc), (.sc (.int .i64 0)), (.sc .nilFunc), (.sc (.int .i64 0)), (.sc .nilFunc), (.sc (.int .i64 0)), (.sc .nilFunc)])⟩])) <|
  .seq (.ops ([
  ⟨some 3, none, none, .objs [], .ld false 1 (.v 1)⟩,
  ⟨some 4, none, none, .objs [], .fn 43 [(.v 3)] []⟩,
  ⟨some 5, none, none, .objs [], .bd [(.sc (.int .i64 0)), (.sc .nilFunc)] [(0, 1, (.c (.sc (.int .i64 1)))), (1, 1, (.v 4))]⟩,
  ⟨some 6, none, none, .objs [], .fn 44 [] [(.v 1)]⟩,
  ⟨some 7, none, none, .objs [], .bd [(.sc (.int .i64 0)), (.sc .nilFunc)] [(0, 1, (.c (.sc (.int .i64 2)))), (1, 1, (.v 6))]⟩,
  ⟨some 8, none, none, .objs [], .fn 45 [] [(.v 1)]⟩,
  ⟨some 9, none, none, .objs [], .bd [(.sc (.int .i64 0)), (.sc .nilFunc)] [(0, 1, (.c (.sc (.int .i64 3)))), (1, 1, (.v 8))]⟩,
  ⟨some 10, none, none, .objs [], .fn 46 [] [(.v 1)]⟩,
  ⟨some 11, none, none, .objs [], .bd [(.sc (.int .i64 0)), (.sc .nilFunc)] [(0, 1, (.c (.sc (.int .i64 4)))), (1, 1, (.v 10))]⟩,
  ⟨some 12, none, none, .objs [], .fn 47 [] [(.v 1)]⟩,
  ⟨some 13, none, none, .objs [], .bd [(.sc (.int .i64 0)), (.sc .nilFunc)] [(0, 1, (.c (.sc (.int .i64 5)))), (1, 1, (.v 12))]⟩,
  ⟨some 14, none, none, .objs [], .fn 48 [] [(.v 1)]⟩] ++ mkL [1, 2, 5, 7, 9, 11, 13, 14] ([
  ⟨some 15, none, none, .objs [], .bd [(.sc (.int .i64 0)), (.sc .nilFunc)] [(0, 1, (.c (.sc (.int .i64 6)))), (1, 1, (.v 14))]⟩,
  ⟨some 16, none, none, .objs [], .ld false 1 (.v 1)⟩,
  ⟨some 17, none, none, .objs [], .fn 49 [(.v 16)] []⟩,
  ⟨some 18, none, none, .objs [], .bd [(.sc (.int .i64 0)), (.sc .nilFunc)] [(0, 1, (.c (.sc (.int .i64 7)))), (1, 1, (.v 17))]⟩,
  ⟨some 19, none, none, .objs [], .bd [(.sc (.int .i64 0)), (.sc .nilFunc), (.sc (.int .i64 0)), (.sc .nilFunc), (.sc (.int .i64 0)), (.sc .nilFunc), (.sc (.int .i64 0)), (.sc .nilFunc), (.sc (.int .i64 0)), (.sc .nilFunc), (.sc (.int .i64 0)), (.sc .nilFunc), (.sc (.int .i64 0)), (.sc .nilFunc)] [(0, 2, (.v 5)), (2, 2, (.v 7)), (4, 2, (.v 9)), (6, 2, (.v 11)), (8, 2, (.v 13)), (10, 2, (.v 15)), (12, 2, (.v 18))]⟩,
  ⟨none, none, none, .objs [], .st 14 (.v 2) (.v 19)⟩]))) <|
  .ret

theorem il39_eq : cFn Tryd.prog pol 39 = some ⟨20, il39c, [(2, some (true, 14))]⟩ := by kernel_rfl

noncomputable def il40c : C :=
  .seq (.ops ([
  ⟨some 5, none, none, .objs [], .bx false (.v 2)⟩])) <|
  .seq (.opsD [(4, 6), (4, 8), (5, 8), (6, 8), (7, 8)] ([
  ⟨some 7, none, none, .objs [], .mv (.v 0)⟩,
  ⟨some 8, none, none, .objs [], .nc (.v 7)⟩,
  ⟨some 9, none, none, .objs [], .fa 0 (.v 8)⟩,
  ⟨some 10, none, none, .objs [], .fa 1 (.v 9)⟩,
  ⟨some 11, none, none, .objs [(.v 10)], .ld false 1 (.v 10)⟩,
  ⟨some 12, none, none, .objs [(.v 5)], .ld true 4 (.v 5)⟩,
  ⟨some 13, none, none, .cal (.c (.fn (.func 35) [] [])) [(.v 12)], .call (.c (.fn (.func 35) [] [])) [(.v 12)]⟩,
  ⟨some 14, none, none, .objs [(.v 11)], .raw (opOf Tryd.prog 40 1 7)⟩,
  ⟨some 6, none, none, .objs [], .nw 4 (.agg [(.sc (.bool false)), (.sc (.bool false)), (.sc (.int .i64 0)), (.sc (.int .i64 0))])⟩,
  ⟨none, none, none, .objs [(.v 6)], .st 4 (.v 6) (.v 14)⟩])) <|
  .seq (.seq (.ops ([
  ⟨some 15, none, none, .objs [], .fa 0 (.v 5)⟩,
  ⟨some 16, none, none, .objs [], .ld false 1 (.v 15)⟩,
  ⟨some 17, none, none, .objs [], .bin .eql false (.v 16) (.c (.sc (.int .i64 1)))⟩])) <| mkC [0, 1, 5, 6, 17] <|
  .cond (.v 17) (.seq (.opsD [(4, 6), (6, 9)] ([
    ⟨some 18, none, none, .objs [], .mv (.v 0)⟩,
    ⟨some 19, none, none, .objs [], .nc (.v 18)⟩,
    ⟨some 20, none, none, .objs [], .fa 0 (.v 19)⟩,
    ⟨some 21, none, none, .objs [], .fa 1 (.v 20)⟩,
    ⟨some 22, none, none, .objs [(.v 21)], .ld false 1 (.v 21)⟩,
    ⟨some 23, none, none, .objs [(.v 5)], .ld true 4 (.v 5)⟩,
    ⟨some 24, none, none, .cal (.c (.fn (.func 35) [] [])) [(.v 23)], .call (.c (.fn (.func 35) [] [])) [(.v 23)]⟩,
    ⟨some 25, none, none, .objs [], .mv (.v 1)⟩,
    ⟨some 26, none, none, .objs [], .fa 3 (.v 5)⟩,
    ⟨some 27, none, none, .objs [(.v 26)], .ld false 1 (.v 26)⟩,
    ⟨some 28, none, none, .objs [], .bd [(.sc (.bool false)), (.sc (.bool false)), (.sc (.int .i64 0)), (.sc (.int .i64 0))] [(0, 1, (.c (.sc (.bool true)))), (2, 1, (.v 25)), (3, 1, (.v 27))]⟩,
    ⟨none, none, none, .objs [(.v 22)], .raw (opOf Tryd.prog 40 3 11)⟩])) <|
    .ret) (.nop)) <|
  .seq (.ops ([
  ⟨some 29, none, none, .objs [], .fa 1 (.v 6)⟩,
  ⟨none, none, none, .objs [], .st 1 (.v 29) (.c (.sc (.bool true)))⟩])) <| mkC [0, 5, 6] <|
  .seq (.opsD [(4, 6), (6, 7)] ([
  ⟨some 30, none, none, .objs [], .mv (.v 0)⟩,
  ⟨some 31, none, none, .objs [], .nc (.v 30)⟩,
  ⟨some 32, none, none, .objs [], .fa 0 (.v 31)⟩,
  ⟨some 33, none, none, .objs [], .fa 1 (.v 32)⟩,
  ⟨some 34, none, none, .objs [(.v 33)], .ld false 1 (.v 33)⟩,
  ⟨some 35, none, none, .objs [(.v 5)], .ld true 4 (.v 5)⟩,
  ⟨some 36, none, none, .cal (.c (.fn (.func 35) [] [])) [(.v 35)], .call (.c (.fn (.func 35) [] [])) [(.v 35)]⟩,
  ⟨some 37, none, none, .objs [(.v 6)], .ld true 4 (.v 6)⟩,
  ⟨none, none, none, .objs [(.v 34)], .raw (opOf Tryd.prog 40 5 8)⟩])) <|
  .opsD [] ([
  ⟨some 38, none, none, .objs [], .mv (.v 0)⟩,
  ⟨some 39, none, none, .objs [], .nc (.v 38)⟩,
  ⟨some 40, none, none, .objs [], .fa 0 (.v 39)⟩,
  ⟨some 41, none, none, .objs [], .fa 2 (.v 40)⟩,
  ⟨some 42, none, none, .objs [(.v 41)], .ld false 1 (.v 41)⟩] ++ mkL [0, 5, 6, 42] ([
  ⟨some 43, none, none, .objs [], .fa 1 (.v 5)⟩,
  ⟨some 44, none, none, .objs [(.v 43)], .ld false 1 (.v 43)⟩,
  ⟨some 45, none, none, .objs [], .mv (.v 0)⟩,
  ⟨some 46, none, none, .objs [], .nc (.v 45)⟩,
  ⟨some 47, none, none, .objs [], .fa 0 (.v 46)⟩,
  ⟨some 48, none, none, .objs [], .fa 2 (.v 47)⟩,
  ⟨some 49, none, none, .objs [(.v 48)], .ld false 1 (.v 48)⟩,
  ⟨some 50, none, none, .objs [], .fa 1 (.v 5)⟩,
  ⟨some 51, none, none, .objs [(.v 50)], .ld false 1 (.v 50)⟩,
  ⟨some 52, none, none, .objs [(.v 49)], .raw (opOf Tryd.prog 40 6 14)⟩,
  ⟨some 53, none, none, .objs [], .fa 2 (.v 6)⟩,
  ⟨some 54, none, none, .objs [(.v 53)], .ld false 1 (.v 53)⟩,
  ⟨some 55, none, none, .objs [], .mnx true (.v 52) (.v 54)⟩,
  ⟨none, none, none, .objs [(.v 42)], .raw (opOf Tryd.prog 40 6 18)⟩]))

theorem il40_eq : cFn Tryd.prog pol 40 = some ⟨56, il40c, []⟩ := by kernel_rfl
theorem raw40_1_7 {e : FEnv} {h : Heap} : iStep Tryd.prog pol 40 e h (.raw (opOf Tryd.prog 40 1 7)) = vOf h (lkV Tryd.prog 75 false h (Src.get e (.v 11)) (Src.get e (.v 13))) := raw_lookup (x := (.tmp 11)) (ix := (.tmp 13)) (by kernel_rfl)
theorem raw40_3_11 {e : FEnv} {h : Heap} : iStep Tryd.prog pol 40 e h (.raw (opOf Tryd.prog 40 3 11)) = hOf (upV Tryd.prog 75 h (Src.get e (.v 22)) (Src.get e (.v 24)) (Src.get e (.v 28))) := raw_update (m := (.tmp 22)) (k := (.tmp 24)) (x := (.tmp 28)) (by kernel_rfl)
theorem raw40_5_8 {e : FEnv} {h : Heap} : iStep Tryd.prog pol 40 e h (.raw (opOf Tryd.prog 40 5 8)) = hOf (upV Tryd.prog 75 h (Src.get e (.v 34)) (Src.get e (.v 36)) (Src.get e (.v 37))) := raw_update (m := (.tmp 34)) (k := (.tmp 36)) (x := (.tmp 37)) (by kernel_rfl)
theorem raw40_6_14 {e : FEnv} {h : Heap} : iStep Tryd.prog pol 40 e h (.raw (opOf Tryd.prog 40 6 14)) = vOf h (lkV Tryd.prog 76 false h (Src.get e (.v 49)) (Src.get e (.v 51))) := raw_lookup (x := (.tmp 49)) (ix := (.tmp 51)) (by kernel_rfl)
theorem raw40_6_18 {e : FEnv} {h : Heap} : iStep Tryd.prog pol 40 e h (.raw (opOf Tryd.prog 40 6 18)) = hOf (upV Tryd.prog 76 h (Src.get e (.v 42)) (Src.get e (.v 44)) (Src.get e (.v 55))) := raw_update (m := (.tmp 42)) (k := (.tmp 44)) (x := (.tmp 55)) (by kernel_rfl)

noncomputable def il43c : C :=
  .seq (.ops ([
  ⟨some 3, none, none, .objs [], .bx false (.v 1)⟩,
  ⟨some 4, none, none, .objs [], .mv (.c (.sc (.bool false)))⟩])) <|
  .seq (.opsD [(4, 11), (6, 11), (7, 11)] ([
  ⟨some 8, none, none, .objs [], .mv (.v 0)⟩,
  ⟨some 9, none, none, .objs [], .nc (.v 8)⟩,
  ⟨some 10, none, none, .objs [], .fa 0 (.v 9)⟩,
  ⟨some 11, none, none, .objs [], .fa 0 (.v 10)⟩,
  ⟨some 12, none, none, .objs [(.v 11)], .ld false 1 (.v 11)⟩,
  ⟨some 13, none, none, .objs [], .fa 1 (.v 3)⟩,
  ⟨some 14, none, none, .objs [(.v 13)], .ld false 1 (.v 13)⟩,
  ⟨some 15, none, none, .objs [(.v 12)], .raw (opOf Tryd.prog 43 1 7)⟩,
  ⟨some 7, none, none, .objs [], .mv (.v 15)⟩,
  ⟨some 16, none, none, .objs [], .ex (.v 7) 0⟩,
  ⟨some 17, none, none, .objs [], .ex (.v 7) 1⟩,
  ⟨some 5, none, none, .objs [], .nw 4 (.agg [(.sc (.int .i64 0)), (.sc (.int .i64 0)), (.sc (.int .i64 0)), (.sc (.bool false))])⟩] ++ mkL [5, 16, 17] ([
  ⟨none, none, none, .objs [(.v 5)], .st 4 (.v 5) (.v 16)⟩,
  ⟨some 6, none, none, .objs [], .mv (.v 17)⟩]))) <|
  .seq (.ops ([
  ⟨some 18, none, none, .objs [], .mv (.v 6)⟩,
  ⟨some 19, none, none, .objs [], .nt (.v 18)⟩,
  ⟨some 4, none, none, .objs [], .mv (.v 19)⟩])) <|
  .ret

theorem il43_eq : cFn Tryd.prog pol 43 = some ⟨20, il43c, [(4, none)]⟩ := by kernel_rfl
theorem raw43_1_7 {e : FEnv} {h : Heap} : iStep Tryd.prog pol 43 e h (.raw (opOf Tryd.prog 43 1 7)) = vOf h (lkV Tryd.prog 74 true h (Src.get e (.v 12)) (Src.get e (.v 14))) := raw_lookup (x := (.tmp 12)) (ix := (.tmp 14)) (by kernel_rfl)

noncomputable def il44c : C :=
  .seq (.ops ([
  ⟨some 2, none, none, .objs [], .bx false (.v 0)⟩,
  ⟨some 3, none, none, .objs [], .mv (.c (.sc (.bool false)))⟩])) <|
  .seq (.opsD [(4, 10), (8, 10)] ([
  ⟨some 4, none, none, .objs [], .fa 0 (.v 2)⟩,
  ⟨some 5, none, none, .objs [(.v 4)], .ld false 1 (.v 4)⟩,
  ⟨some 6, none, none, .objs [], .bin .eql false (.v 5) (.c (.sc (.int .i64 1)))⟩,
  ⟨some 7, none, none, .objs [], .mv (.v 6)⟩,
  ⟨some 8, some (7, true), none, .objs [(.v 1)], .ld false 1 (.v 1)⟩,
  ⟨some 9, some (7, true), none, .objs [], .nc (.v 8)⟩,
  ⟨some 10, some (7, true), none, .objs [], .fa 0 (.v 9)⟩,
  ⟨some 11, some (7, true), none, .objs [], .fa 1 (.v 10)⟩,
  ⟨some 12, some (7, true), none, .objs [(.v 11)], .ld false 1 (.v 11)⟩,
  ⟨some 13, some (7, true), none, .objs [(.v 2)], .ld true 4 (.v 2)⟩,
  ⟨some 14, some (7, true), none, .cal (.c (.fn (.func 35) [] [])) [(.v 13)], .call (.c (.fn (.func 35) [] [])) [(.v 13)]⟩,
  ⟨some 15, some (7, true), none, .objs [(.v 12)], .raw (opOf Tryd.prog 44 1 11)⟩] ++ mkL [7, 15] ([
  ⟨some 16, some (7, true), none, .objs [], .fd false 1 0 (.v 15)⟩,
  ⟨some 17, none, none, .objs [], .pk (.v 7) (.v 16) (.c (.sc (.bool false)))⟩,
  ⟨some 3, none, none, .objs [], .mv (.v 17)⟩]))) <|
  .ret

theorem il44_eq : cFn Tryd.prog pol 44 = some ⟨18, il44c, [(3, none)]⟩ := by kernel_rfl
theorem raw44_1_11 {e : FEnv} {h : Heap} : iStep Tryd.prog pol 44 e h (.raw (opOf Tryd.prog 44 1 11)) = vOf h (lkV Tryd.prog 75 false h (Src.get e (.v 12)) (Src.get e (.v 14))) := raw_lookup (x := (.tmp 12)) (ix := (.tmp 14)) (by kernel_rfl)

noncomputable def il45c : C :=
  .seq (.ops ([
  ⟨some 2, none, none, .objs [], .bx false (.v 0)⟩,
  ⟨some 3, none, none, .objs [], .mv (.c (.sc (.bool false)))⟩])) <|
  .seq (.opsD [(4, 10), (8, 10)] ([
  ⟨some 4, none, none, .objs [], .fa 0 (.v 2)⟩,
  ⟨some 5, none, none, .objs [(.v 4)], .ld false 1 (.v 4)⟩,
  ⟨some 6, none, none, .objs [], .bin .eql false (.v 5) (.c (.sc (.int .i64 2)))⟩,
  ⟨some 7, none, none, .objs [], .mv (.v 6)⟩,
  ⟨some 8, some (7, true), none, .objs [(.v 1)], .ld false 1 (.v 1)⟩,
  ⟨some 9, some (7, true), none, .objs [], .nc (.v 8)⟩,
  ⟨some 10, some (7, true), none, .objs [], .fa 0 (.v 9)⟩,
  ⟨some 11, some (7, true), none, .objs [], .fa 1 (.v 10)⟩,
  ⟨some 12, some (7, true), none, .objs [(.v 11)], .ld false 1 (.v 11)⟩,
  ⟨some 13, some (7, true), none, .objs [(.v 2)], .ld true 4 (.v 2)⟩,
  ⟨some 14, some (7, true), none, .cal (.c (.fn (.func 35) [] [])) [(.v 13)], .call (.c (.fn (.func 35) [] [])) [(.v 13)]⟩,
  ⟨some 15, some (7, true), none, .objs [(.v 12)], .raw (opOf Tryd.prog 45 1 11)⟩] ++ mkL [7, 15] ([
  ⟨some 16, some (7, true), none, .objs [], .fd false 1 0 (.v 15)⟩,
  ⟨some 17, some (7, true), none, .objs [], .nt (.v 16)⟩,
  ⟨some 18, none, none, .objs [], .pk (.v 7) (.v 17) (.c (.sc (.bool false)))⟩,
  ⟨some 3, none, none, .objs [], .mv (.v 18)⟩]))) <|
  .ret

theorem il45_eq : cFn Tryd.prog pol 45 = some ⟨19, il45c, [(3, none)]⟩ := by kernel_rfl
theorem raw45_1_11 {e : FEnv} {h : Heap} : iStep Tryd.prog pol 45 e h (.raw (opOf Tryd.prog 45 1 11)) = vOf h (lkV Tryd.prog 75 false h (Src.get e (.v 12)) (Src.get e (.v 14))) := raw_lookup (x := (.tmp 12)) (ix := (.tmp 14)) (by kernel_rfl)

noncomputable def il46c : C :=
  .seq (.ops ([
  ⟨some 2, none, none, .objs [], .bx false (.v 0)⟩,
  ⟨some 3, none, none, .objs [], .mv (.c (.sc (.bool false)))⟩])) <|
  .seq (.opsD [(4, 10), (8, 10)] ([
  ⟨some 4, none, none, .objs [], .fa 0 (.v 2)⟩,
  ⟨some 5, none, none, .objs [(.v 4)], .ld false 1 (.v 4)⟩,
  ⟨some 6, none, none, .objs [], .bin .eql false (.v 5) (.c (.sc (.int .i64 2)))⟩,
  ⟨some 7, none, none, .objs [], .mv (.v 6)⟩,
  ⟨some 8, some (7, true), none, .objs [(.v 1)], .ld false 1 (.v 1)⟩,
  ⟨some 9, some (7, true), none, .objs [], .nc (.v 8)⟩,
  ⟨some 10, some (7, true), none, .objs [], .fa 0 (.v 9)⟩,
  ⟨some 11, some (7, true), none, .objs [], .fa 1 (.v 10)⟩,
  ⟨some 12, some (7, true), none, .objs [(.v 11)], .ld false 1 (.v 11)⟩,
  ⟨some 13, some (7, true), none, .objs [(.v 2)], .ld true 4 (.v 2)⟩,
  ⟨some 14, some (7, true), none, .cal (.c (.fn (.func 35) [] [])) [(.v 13)], .call (.c (.fn (.func 35) [] [])) [(.v 13)]⟩,
  ⟨some 15, some (7, true), none, .objs [(.v 12)], .raw (opOf Tryd.prog 46 1 11)⟩] ++ mkL [7, 15] ([
  ⟨some 16, some (7, true), none, .objs [], .fd false 1 1 (.v 15)⟩,
  ⟨some 17, none, none, .objs [], .pk (.v 7) (.v 16) (.c (.sc (.bool false)))⟩,
  ⟨some 3, none, none, .objs [], .mv (.v 17)⟩]))) <|
  .ret

theorem il46_eq : cFn Tryd.prog pol 46 = some ⟨18, il46c, [(3, none)]⟩ := by kernel_rfl
theorem raw46_1_11 {e : FEnv} {h : Heap} : iStep Tryd.prog pol 46 e h (.raw (opOf Tryd.prog 46 1 11)) = vOf h (lkV Tryd.prog 75 false h (Src.get e (.v 12)) (Src.get e (.v 14))) := raw_lookup (x := (.tmp 12)) (ix := (.tmp 14)) (by kernel_rfl)

noncomputable def il47c : C :=
  .seq (.ops ([
  ⟨some 2, none, none, .objs [], .bx false (.v 0)⟩,
  ⟨some 3, none, none, .objs [], .mv (.c (.sc (.bool false)))⟩])) <|
  .seq (.opsD [(5, 12), (6, 12), (10, 12), (12, 16), (12, 20), (12, 22), (12, 23)] ([
  ⟨some 4, none, none, .objs [], .fa 0 (.v 2)⟩,
  ⟨some 5, none, none, .objs [(.v 4)], .ld false 1 (.v 4)⟩,
  ⟨some 6, none, none, .objs [], .bin .eql false (.v 5) (.c (.sc (.int .i64 2)))⟩,
  ⟨some 7, none, none, .objs [], .mv (.v 6)⟩,
  ⟨some 8, some (7, true), none, .objs [], .fa 3 (.v 2)⟩,
  ⟨some 9, some (7, true), none, .objs [(.v 8)], .ld false 1 (.v 8)⟩,
  ⟨some 10, some (7, true), none, .objs [(.v 1)], .ld false 1 (.v 1)⟩,
  ⟨some 11, some (7, true), none, .objs [], .nc (.v 10)⟩,
  ⟨some 12, some (7, true), none, .objs [], .fa 0 (.v 11)⟩,
  ⟨some 13, some (7, true), none, .objs [], .fa 1 (.v 12)⟩,
  ⟨some 14, some (7, true), none, .objs [(.v 13)], .ld false 1 (.v 13)⟩,
  ⟨some 15, some (7, true), none, .objs [(.v 2)], .ld true 4 (.v 2)⟩] ++ mkL [1, 2, 7, 9, 14, 15] ([
  ⟨some 16, some (7, true), none, .cal (.c (.fn (.func 35) [] [])) [(.v 15)], .call (.c (.fn (.func 35) [] [])) [(.v 15)]⟩,
  ⟨some 17, some (7, true), none, .objs [(.v 14)], .raw (opOf Tryd.prog 47 1 13)⟩,
  ⟨some 18, some (7, true), none, .objs [], .fd false 1 3 (.v 17)⟩,
  ⟨some 19, some (7, true), none, .objs [], .bin .sub false (.v 9) (.v 18)⟩,
  ⟨some 20, some (7, true), none, .objs [(.v 1)], .ld false 1 (.v 1)⟩,
  ⟨some 21, some (7, true), none, .objs [], .nc (.v 20)⟩,
  ⟨some 22, some (7, true), none, .objs [], .fa 0 (.v 21)⟩,
  ⟨some 23, some (7, true), none, .objs [], .fa 0 (.v 22)⟩,
  ⟨some 24, some (7, true), none, .objs [(.v 23)], .ld false 1 (.v 23)⟩,
  ⟨some 25, some (7, true), none, .objs [], .fa 1 (.v 2)⟩,
  ⟨some 26, some (7, true), none, .objs [(.v 25)], .ld false 1 (.v 25)⟩,
  ⟨some 27, some (7, true), none, .objs [(.v 24)], .raw (opOf Tryd.prog 47 1 23)⟩,
  ⟨some 28, some (7, true), none, .objs [], .fd false 1 1 (.v 27)⟩,
  ⟨some 29, some (7, true), none, .objs [], .bin .lss false (.v 19) (.v 28)⟩] ++ mkL [7, 29] ([
  ⟨some 30, none, none, .objs [], .pk (.v 7) (.v 29) (.c (.sc (.bool false)))⟩,
  ⟨some 3, none, none, .objs [], .mv (.v 30)⟩])))) <|
  .ret

theorem il47_eq : cFn Tryd.prog pol 47 = some ⟨31, il47c, [(3, none)]⟩ := by kernel_rfl
theorem raw47_1_13 {e : FEnv} {h : Heap} : iStep Tryd.prog pol 47 e h (.raw (opOf Tryd.prog 47 1 13)) = vOf h (lkV Tryd.prog 75 false h (Src.get e (.v 14)) (Src.get e (.v 16))) := raw_lookup (x := (.tmp 14)) (ix := (.tmp 16)) (by kernel_rfl)
theorem raw47_1_23 {e : FEnv} {h : Heap} : iStep Tryd.prog pol 47 e h (.raw (opOf Tryd.prog 47 1 23)) = vOf h (lkV Tryd.prog 74 false h (Src.get e (.v 24)) (Src.get e (.v 26))) := raw_lookup (x := (.tmp 24)) (ix := (.tmp 26)) (by kernel_rfl)

noncomputable def il48c : C :=
  .seq (.ops ([
  ⟨some 2, none, none, .objs [], .bx false (.v 0)⟩,
  ⟨some 3, none, none, .objs [], .mv (.c (.sc (.bool false)))⟩])) <|
  .seq (.opsD [(5, 12), (6, 12), (10, 12), (12, 16), (12, 20), (12, 22), (12, 23)] ([
  ⟨some 4, none, none, .objs [], .fa 0 (.v 2)⟩,
  ⟨some 5, none, none, .objs [(.v 4)], .ld false 1 (.v 4)⟩,
  ⟨some 6, none, none, .objs [], .bin .eql false (.v 5) (.c (.sc (.int .i64 2)))⟩,
  ⟨some 7, none, none, .objs [], .mv (.v 6)⟩,
  ⟨some 8, some (7, true), none, .objs [], .fa 3 (.v 2)⟩,
  ⟨some 9, some (7, true), none, .objs [(.v 8)], .ld false 1 (.v 8)⟩,
  ⟨some 10, some (7, true), none, .objs [(.v 1)], .ld false 1 (.v 1)⟩,
  ⟨some 11, some (7, true), none, .objs [], .nc (.v 10)⟩,
  ⟨some 12, some (7, true), none, .objs [], .fa 0 (.v 11)⟩,
  ⟨some 13, some (7, true), none, .objs [], .fa 1 (.v 12)⟩,
  ⟨some 14, some (7, true), none, .objs [(.v 13)], .ld false 1 (.v 13)⟩,
  ⟨some 15, some (7, true), none, .objs [(.v 2)], .ld true 4 (.v 2)⟩] ++ mkL [1, 2, 7, 9, 14, 15] ([
  ⟨some 16, some (7, true), none, .cal (.c (.fn (.func 35) [] [])) [(.v 15)], .call (.c (.fn (.func 35) [] [])) [(.v 15)]⟩,
  ⟨some 17, some (7, true), none, .objs [(.v 14)], .raw (opOf Tryd.prog 48 1 13)⟩,
  ⟨some 18, some (7, true), none, .objs [], .fd false 1 3 (.v 17)⟩,
  ⟨some 19, some (7, true), none, .objs [], .bin .sub false (.v 9) (.v 18)⟩,
  ⟨some 20, some (7, true), none, .objs [(.v 1)], .ld false 1 (.v 1)⟩,
  ⟨some 21, some (7, true), none, .objs [], .nc (.v 20)⟩,
  ⟨some 22, some (7, true), none, .objs [], .fa 0 (.v 21)⟩,
  ⟨some 23, some (7, true), none, .objs [], .fa 0 (.v 22)⟩,
  ⟨some 24, some (7, true), none, .objs [(.v 23)], .ld false 1 (.v 23)⟩,
  ⟨some 25, some (7, true), none, .objs [], .fa 1 (.v 2)⟩,
  ⟨some 26, some (7, true), none, .objs [(.v 25)], .ld false 1 (.v 25)⟩,
  ⟨some 27, some (7, true), none, .objs [(.v 24)], .raw (opOf Tryd.prog 48 1 23)⟩,
  ⟨some 28, some (7, true), none, .objs [], .fd false 1 2 (.v 27)⟩,
  ⟨some 29, some (7, true), none, .objs [], .bin .gtr false (.v 19) (.v 28)⟩] ++ mkL [7, 29] ([
  ⟨some 30, none, none, .objs [], .pk (.v 7) (.v 29) (.c (.sc (.bool false)))⟩,
  ⟨some 3, none, none, .objs [], .mv (.v 30)⟩])))) <|
  .ret

theorem il48_eq : cFn Tryd.prog pol 48 = some ⟨31, il48c, [(3, none)]⟩ := by kernel_rfl
theorem raw48_1_13 {e : FEnv} {h : Heap} : iStep Tryd.prog pol 48 e h (.raw (opOf Tryd.prog 48 1 13)) = vOf h (lkV Tryd.prog 75 false h (Src.get e (.v 14)) (Src.get e (.v 16))) := raw_lookup (x := (.tmp 14)) (ix := (.tmp 16)) (by kernel_rfl)
theorem raw48_1_23 {e : FEnv} {h : Heap} : iStep Tryd.prog pol 48 e h (.raw (opOf Tryd.prog 48 1 23)) = vOf h (lkV Tryd.prog 74 false h (Src.get e (.v 24)) (Src.get e (.v 26))) := raw_lookup (x := (.tmp 24)) (ix := (.tmp 26)) (by kernel_rfl)

noncomputable def il49c : C :=
  .seq (.ops ([
  ⟨some 3, none, none, .objs [], .bx false (.v 1)⟩,
  ⟨some 4, none, none, .objs [], .mv (.c (.sc (.bool false)))⟩])) <|
  .seq (.seq (.opsD [] ([
  ⟨some 7, none, none, .objs [], .fa 0 (.v 3)⟩,
  ⟨some 8, none, none, .objs [(.v 7)], .ld false 1 (.v 7)⟩,
  ⟨some 9, none, none, .objs [], .bin .neq false (.v 8) (.c (.sc (.int .i64 2)))⟩,
  ⟨some 10, none, none, .objs [], .mv (.v 9)⟩,
  ⟨some 11, some (10, false), none, .objs [], .mv (.v 0)⟩,
  ⟨some 12, some (10, false), none, .objs [], .nc (.v 11)⟩,
  ⟨some 13, some (10, false), none, .objs [], .fa 0 (.v 12)⟩,
  ⟨some 14, some (10, false), none, .objs [], .fa 0 (.v 13)⟩,
  ⟨some 15, some (10, false), none, .objs [(.v 14)], .ld false 1 (.v 14)⟩,
  ⟨some 16, some (10, false), none, .objs [], .fa 1 (.v 3)⟩,
  ⟨some 17, some (10, false), none, .objs [(.v 16)], .ld false 1 (.v 16)⟩,
  ⟨some 18, some (10, false), none, .objs [(.v 15)], .raw (opOf Tryd.prog 49 1 11)⟩] ++ mkL [0, 3, 10, 18] ([
  ⟨some 19, some (10, false), none, .objs [], .fd false 1 3 (.v 18)⟩,
  ⟨some 20, some (10, false), none, .objs [], .nt (.v 19)⟩,
  ⟨some 21, none, none, .objs [], .pk (.v 10) (.c (.sc (.bool true))) (.v 20)⟩]))) <|
  .cond (.v 21) (.seq (.ops ([
    ⟨some 4, none, none, .objs [], .mv (.c (.sc (.bool false)))⟩])) <|
    .ret) (.nop)) <|
  .seq (.opsD [] ([
  ⟨some 23, none, none, .objs [], .mv (.v 0)⟩,
  ⟨some 24, none, none, .objs [], .nc (.v 23)⟩,
  ⟨some 25, none, none, .objs [], .fa 0 (.v 24)⟩,
  ⟨some 26, none, none, .objs [], .fa 2 (.v 25)⟩,
  ⟨some 27, none, none, .objs [(.v 26)], .ld false 1 (.v 26)⟩,
  ⟨some 28, none, none, .objs [], .fa 1 (.v 3)⟩,
  ⟨some 29, none, none, .objs [(.v 28)], .ld false 1 (.v 28)⟩,
  ⟨some 30, none, none, .objs [(.v 27)], .raw (opOf Tryd.prog 49 3 7)⟩,
  ⟨some 22, none, none, .objs [], .mv (.v 30)⟩,
  ⟨some 31, none, none, .objs [], .ex (.v 22) 0⟩] ++ mkL [0, 3, 22, 31] ([
  ⟨some 32, none, none, .objs [], .ex (.v 22) 1⟩,
  ⟨some 5, none, none, .objs [], .mv (.v 31)⟩,
  ⟨some 6, none, none, .objs [], .mv (.v 32)⟩]))) <|
  .seq (.opsD [(7, 9)] ([
  ⟨some 33, none, none, .objs [], .mv (.v 6)⟩,
  ⟨some 34, none, none, .objs [], .mv (.v 33)⟩,
  ⟨some 35, some (34, true), none, .objs [], .mv (.v 5)⟩,
  ⟨some 36, some (34, true), none, .objs [], .mv (.v 0)⟩,
  ⟨some 37, some (34, true), none, .objs [], .nc (.v 36)⟩,
  ⟨some 38, some (34, true), none, .objs [], .fa 0 (.v 37)⟩,
  ⟨some 39, some (34, true), none, .objs [], .fa 1 (.v 38)⟩,
  ⟨some 40, some (34, true), none, .objs [(.v 39)], .ld false 1 (.v 39)⟩,
  ⟨some 41, some (34, true), none, .objs [(.v 3)], .ld true 4 (.v 3)⟩,
  ⟨some 42, some (34, true), none, .cal (.c (.fn (.func 35) [] [])) [(.v 41)], .call (.c (.fn (.func 35) [] [])) [(.v 41)]⟩,
  ⟨some 43, some (34, true), none, .objs [(.v 40)], .raw (opOf Tryd.prog 49 4 10)⟩] ++ mkL [34, 35, 43] ([
  ⟨some 44, some (34, true), none, .objs [], .fd false 1 2 (.v 43)⟩,
  ⟨some 45, some (34, true), none, .objs [], .bin .gtr false (.v 35) (.v 44)⟩,
  ⟨some 46, none, none, .objs [], .pk (.v 34) (.v 45) (.c (.sc (.bool false)))⟩,
  ⟨some 4, none, none, .objs [], .mv (.v 46)⟩]))) <|
  .ret

theorem il49_eq : cFn Tryd.prog pol 49 = some ⟨47, il49c, [(4, none)]⟩ := by kernel_rfl
theorem raw49_1_11 {e : FEnv} {h : Heap} : iStep Tryd.prog pol 49 e h (.raw (opOf Tryd.prog 49 1 11)) = vOf h (lkV Tryd.prog 74 false h (Src.get e (.v 15)) (Src.get e (.v 17))) := raw_lookup (x := (.tmp 15)) (ix := (.tmp 17)) (by kernel_rfl)
theorem raw49_3_7 {e : FEnv} {h : Heap} : iStep Tryd.prog pol 49 e h (.raw (opOf Tryd.prog 49 3 7)) = vOf h (lkV Tryd.prog 76 true h (Src.get e (.v 27)) (Src.get e (.v 29))) := raw_lookup (x := (.tmp 27)) (ix := (.tmp 29)) (by kernel_rfl)
theorem raw49_4_10 {e : FEnv} {h : Heap} : iStep Tryd.prog pol 49 e h (.raw (opOf Tryd.prog 49 4 10)) = vOf h (lkV Tryd.prog 75 false h (Src.get e (.v 40)) (Src.get e (.v 42))) := raw_lookup (x := (.tmp 40)) (ix := (.tmp 42)) (by kernel_rfl)

attribute [go_sem] eqT34
attribute [go_sem] eqT22
attribute [go_sem] eqT23
attribute [go_sem] raw6_14_5
attribute [go_sem] raw6_14_28
attribute [go_sem] raw12_9_0
attribute [go_sem] raw12_9_1
attribute [go_sem] raw12_9_2
attribute [go_sem] raw12_13_8
attribute [go_sem] raw12_16_2
attribute [go_sem] raw27_1_1
attribute [go_sem] raw28_1_1
attribute [go_sem] raw31_4_11
attribute [go_sem] raw31_4_25
attribute [go_sem] raw40_1_7
attribute [go_sem] raw40_3_11
attribute [go_sem] raw40_5_8
attribute [go_sem] raw40_6_14
attribute [go_sem] raw40_6_18
attribute [go_sem] raw43_1_7
attribute [go_sem] raw44_1_11
attribute [go_sem] raw45_1_11
attribute [go_sem] raw46_1_11
attribute [go_sem] raw47_1_13
attribute [go_sem] raw47_1_23
attribute [go_sem] raw48_1_13
attribute [go_sem] raw48_1_23
attribute [go_sem] raw49_1_11
attribute [go_sem] raw49_3_7
attribute [go_sem] raw49_4_10
end Go.Proofs.YthcaepnclhgkmaaDoor
