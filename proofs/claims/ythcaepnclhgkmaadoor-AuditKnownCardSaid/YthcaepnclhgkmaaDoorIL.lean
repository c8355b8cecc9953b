/- Functions of the program, worked out ahead (printed by a program; each is checked against the program by the kernel). -/
import Derived.Test.YthcaepnclhgkmaaDoorILBase
set_option linter.unusedSimpArgs false
namespace Go.Proofs.YthcaepnclhgkmaaDoor
open Go Go.Abs
set_option maxRecDepth 100000
set_option linter.unusedVariables false

theorem eqT34 {a0 b0 : Int} {a1 b1 : Int} {a2 b2 : Int} {a3 b3 : Int} : aEq Tryd.prog 34 (.t (.agg [.sc (.int .i64 a0), .sc (.int .i64 a1), .sc (.int .i64 a2), .sc (.int .i64 a3)])) (.t (.agg [.sc (.int .i64 b0), .sc (.int .i64 b1), .sc (.int .i64 b2), .sc (.int .i64 b3)])) = some (decide (a0 = b0 ∧ a1 = b1 ∧ a2 = b2 ∧ a3 = b3)) :=
  (show aEq Tryd.prog 34 (.t (.agg [.sc (.int .i64 a0), .sc (.int .i64 a1), .sc (.int .i64 a2), .sc (.int .i64 a3)])) (.t (.agg [.sc (.int .i64 b0), .sc (.int .i64 b1), .sc (.int .i64 b2), .sc (.int .i64 b3)])) = some ((a0 == b0) && ((a1 == b1) && ((a2 == b2) && ((a3 == b3) && true)))) by kernel_rfl).trans (by congr 1; rw [Bool.eq_iff_iff]; simp [and_assoc])

theorem eqT22 : isSliceT Tryd.prog 22 = true := by kernel_rfl

theorem eqT23 : isSliceT Tryd.prog 23 = true := by kernel_rfl

noncomputable def il7l0b : C :=
  .seq (.ops ([
  ⟨some 75, none, none, .objs [], .bin .lss false (.v 74) (.c (.sc (.int .i64 13)))⟩])) <|
  .seq (.cond (.v 75) (.nop) (.exit 0)) <|
  .seq (.block 1 (.seq (.ops ([
    ⟨some 76, none, none, .objs [], .mv (.v 74)⟩,
    ⟨some 3, none, none, .objs [], .mv (.v 76)⟩])) <|
    .ops ([
    ⟨some 77, none, none, .objs [], .mv (.v 2)⟩,
    ⟨some 78, none, none, .objs [], .mv (.v 3)⟩,
    ⟨some 79, none, none, .objs [], .bin .add false (.v 78) (.c (.sc (.int .i64 1)))⟩,
    ⟨some 80, none, none, .objs [], .bd [(.sc (.int .i64 0)), (.sc (.int .i64 0)), (.sc (.int .i64 0)), (.sc (.bool false))] [(0, 1, (.v 79))]⟩,
    ⟨some 81, none, none, .objs [], .bs false 4 (.agg [(.sc (.int .i64 0)), (.sc (.int .i64 0)), (.sc (.int .i64 0)), (.sc (.bool false))]) 1 [(0, (.v 80))]⟩,
    ⟨some 82, none, none, .objs [], .app 4 32 (.v 77) (.v 81)⟩,
    ⟨some 2, none, none, .objs [], .gmv 4 (.v 82)⟩]))) <|
  .ops ([
  ⟨some 83, none, none, .objs [], .bin .add false (.v 74) (.c (.sc (.int .i64 1)))⟩,
  ⟨some 74, none, none, .objs [], .mv (.v 83)⟩])
noncomputable def il7l0 : C := il7l0b
theorem il7l0_go {P : Program} {pol : Pol} {K : Oracle} {I : Inl} {n : Nat} {f : FuncId} {R : Xit → FEnv → Heap → Prop} {e : FEnv} {h : Heap} : wc P pol K I n f il7l0 R e h = wc P pol K I n f il7l0b R e h := (fun x => x) rfl

noncomputable def il7l1b : C :=
  .seq (.ops ([
  ⟨some 113, none, none, .objs [], .bin .lss false (.v 112) (.v 111)⟩])) <|
  .seq (.cond (.v 113) (.nop) (.exit 2)) <|
  .seq (.block 3 (.seq (.ops ([
    ⟨some 114, none, none, .objs [], .mv (.v 112)⟩,
    ⟨some 13, none, none, .objs [], .mv (.v 114)⟩])) <|
    .ops ([
    ⟨some 115, none, none, .objs [], .mv (.v 12)⟩,
    ⟨some 116, none, none, .objs [], .mv (.v 13)⟩,
    ⟨some 117, none, none, .objs [], .call (.c (.fn (.func 25) [] [])) [(.c (.sc (.int .i64 0))), (.c (.sc (.int .i64 0))), (.c (.sc (.int .i64 7)))]⟩,
    ⟨some 118, none, none, .objs [], .iaS 4 (.v 115) (.v 116)⟩,
    ⟨none, none, none, .objs [], .st 4 (.v 118) (.v 117)⟩]))) <|
  .ops ([
  ⟨some 119, none, none, .objs [], .bin .add false (.v 112) (.c (.sc (.int .i64 1)))⟩,
  ⟨some 112, none, none, .objs [], .mv (.v 119)⟩])
noncomputable def il7l1 : C := il7l1b
theorem il7l1_go {P : Program} {pol : Pol} {K : Oracle} {I : Inl} {n : Nat} {f : FuncId} {R : Xit → FEnv → Heap → Prop} {e : FEnv} {h : Heap} : wc P pol K I n f il7l1 R e h = wc P pol K I n f il7l1b R e h := (fun x => x) rfl

noncomputable def il7c : C :=
  .seq (.ops ([
  ⟨some 0, none, none, .objs [], .mv (.c (.sc (.bool false)))⟩])) <|
  .seq (.seq (.ops ([
  ⟨some 20, none, none, .objs [], .call (.c (.fn (.func 9) [] [])) []⟩,
  ⟨some 21, none, none, .objs [], .nt (.v 20)⟩])) <|
  .cond (.v 21) (.seq (.ops ([
    ⟨some 0, none, none, .objs [], .mv (.c (.sc (.bool false)))⟩])) <|
    .ret) (.nop)) <|
  .seq (.ops ([
  ⟨some 22, none, none, .objs [], .bd [(.sc (.int .i64 0)), (.sc (.int .i64 0)), (.sc (.int .i64 0)), (.sc (.int .i64 0))] [(0, 1, (.c (.sc (.int .i64 2)))), (1, 1, (.c (.sc (.int .i64 1)))), (2, 1, (.c (.sc (.int .i64 1))))]⟩,
  ⟨some 23, none, none, .objs [], .call (.c (.fn (.func 24) [] [])) [(.c (.sc (.int .i64 1))), (.c (.sc (.int .i64 0))), (.c (.sc (.int .i64 0)))]⟩,
  ⟨some 24, none, none, .objs [], .call (.c (.fn (.func 24) [] [])) [(.c (.sc (.int .i64 1))), (.c (.sc (.int .i64 0))), (.c (.sc (.int .i64 0)))]⟩,
  ⟨some 25, none, none, .objs [], .bs false 4 (.agg [(.sc (.int .i64 0)), (.sc (.int .i64 0)), (.sc (.int .i64 0)), (.sc (.int .i64 0))]) 2 [(0, (.v 23)), (1, (.v 24))]⟩,
  ⟨some 26, none, none, .objs [], .call (.c (.fn (.func 23) [] [])) [(.c (.sc (.int .i64 20))), (.v 22), (.v 25)]⟩,
  ⟨some 27, none, none, .objs [], .mv (.v 26)⟩,
  ⟨some 28, some (27, true), none, .objs [], .bd [(.sc (.int .i64 0)), (.sc (.int .i64 0)), (.sc (.int .i64 0)), (.sc (.int .i64 0))] [(0, 1, (.c (.sc (.int .i64 3)))), (2, 1, (.c (.sc (.int .i64 2)))), (3, 1, (.c (.sc (.int .i64 9))))]⟩,
  ⟨some 29, some (27, true), none, .objs [], .call (.c (.fn (.func 25) [] [])) [(.c (.sc (.int .i64 2))), (.c (.sc (.int .i64 9))), (.c (.sc (.int .i64 0)))]⟩,
  ⟨some 30, some (27, true), none, .objs [], .bs false 4 (.agg [(.sc (.int .i64 0)), (.sc (.int .i64 0)), (.sc (.int .i64 0)), (.sc (.int .i64 0))]) 1 [(0, (.v 29))]⟩,
  ⟨some 31, some (27, true), none, .objs [], .call (.c (.fn (.func 23) [] [])) [(.c (.sc (.int .i64 0))), (.v 28), (.v 30)]⟩] ++ mkL [27, 31] ([
  ⟨some 32, none, none, .objs [], .pk (.v 27) (.v 31) (.c (.sc (.bool false)))⟩,
  ⟨some 1, none, none, .objs [], .mv (.v 32)⟩]))) <|
  .seq (.ops ([
  ⟨some 33, none, none, .objs [], .mv (.v 1)⟩,
  ⟨some 34, none, none, .objs [], .mv (.v 33)⟩,
  ⟨some 35, some (34, true), none, .objs [], .bd [(.sc (.int .i64 0)), (.sc (.int .i64 0)), (.sc (.int .i64 0)), (.sc (.int .i64 0))] [(0, 1, (.c (.sc (.int .i64 6)))), (1, 1, (.c (.sc (.int .i64 1)))), (2, 1, (.c (.sc (.int .i64 1))))]⟩,
  ⟨some 36, some (34, true), none, .objs [], .call (.c (.fn (.func 24) [] [])) [(.c (.sc (.int .i64 1))), (.c (.sc (.int .i64 0))), (.c (.sc (.int .i64 0)))]⟩,
  ⟨some 37, some (34, true), none, .objs [], .call (.c (.fn (.func 25) [] [])) [(.c (.sc (.int .i64 1))), (.c (.sc (.int .i64 0))), (.c (.sc (.int .i64 21)))]⟩,
  ⟨some 38, some (34, true), none, .objs [], .bs false 4 (.agg [(.sc (.int .i64 0)), (.sc (.int .i64 0)), (.sc (.int .i64 0)), (.sc (.int .i64 0))]) 2 [(0, (.v 36)), (1, (.v 37))]⟩,
  ⟨some 39, some (34, true), none, .objs [], .call (.c (.fn (.func 23) [] [])) [(.c (.sc (.int .i64 21))), (.v 35), (.v 38)]⟩,
  ⟨some 40, none, none, .objs [], .pk (.v 34) (.v 39) (.c (.sc (.bool false)))⟩,
  ⟨some 41, none, none, .objs [], .mv (.v 40)⟩,
  ⟨some 42, some (41, true), none, .objs [], .bd [(.sc (.int .i64 0)), (.sc (.int .i64 0)), (.sc (.int .i64 0)), (.sc (.int .i64 0))] []⟩,
  ⟨some 43, some (41, true), none, .objs [], .call (.c (.fn (.func 24) [] [])) [(.c (.sc (.int .i64 1))), (.c (.sc (.int .i64 0))), (.c (.sc (.int .i64 0)))]⟩,
  ⟨some 44, some (41, true), none, .objs [], .call (.c (.fn (.func 25) [] [])) [(.c (.sc (.int .i64 1))), (.c (.sc (.int .i64 0))), (.c (.sc (.int .i64 20)))]⟩] ++ mkL [41, 42, 43, 44] ([
  ⟨some 45, some (41, true), none, .objs [], .bs false 4 (.agg [(.sc (.int .i64 0)), (.sc (.int .i64 0)), (.sc (.int .i64 0)), (.sc (.int .i64 0))]) 2 [(0, (.v 43)), (1, (.v 44))]⟩,
  ⟨some 46, some (41, true), none, .objs [], .call (.c (.fn (.func 23) [] [])) [(.c (.sc (.int .i64 20))), (.v 42), (.v 45)]⟩,
  ⟨some 47, none, none, .objs [], .pk (.v 41) (.v 46) (.c (.sc (.bool false)))⟩,
  ⟨some 48, none, none, .objs [], .mv (.v 47)⟩,
  ⟨some 49, some (48, true), none, .objs [], .bd [(.sc (.int .i64 0)), (.sc (.int .i64 0)), (.sc (.int .i64 0)), (.sc (.int .i64 0))] []⟩,
  ⟨some 50, some (48, true), none, .objs [], .call (.c (.fn (.func 24) [] [])) [(.c (.sc (.int .i64 1))), (.c (.sc (.int .i64 0))), (.c (.sc (.int .i64 0)))]⟩,
  ⟨some 51, some (48, true), none, .objs [], .call (.c (.fn (.func 25) [] [])) [(.c (.sc (.int .i64 1))), (.c (.sc (.int .i64 0))), (.c (.sc (.int .i64 5)))]⟩,
  ⟨some 52, some (48, true), none, .objs [], .bs false 4 (.agg [(.sc (.int .i64 0)), (.sc (.int .i64 0)), (.sc (.int .i64 0)), (.sc (.int .i64 0))]) 2 [(0, (.v 50)), (1, (.v 51))]⟩,
  ⟨some 53, some (48, true), none, .objs [], .call (.c (.fn (.func 23) [] [])) [(.c (.sc (.int .i64 5))), (.v 49), (.v 52)]⟩,
  ⟨some 54, none, none, .objs [], .pk (.v 48) (.v 53) (.c (.sc (.bool false)))⟩,
  ⟨some 1, none, none, .objs [], .mv (.v 54)⟩]))) <|
  .seq (.ops ([
  ⟨some 55, none, none, .objs [], .mv (.v 1)⟩,
  ⟨some 56, none, none, .objs [], .mv (.v 55)⟩,
  ⟨some 57, some (56, true), none, .objs [], .bd [(.sc (.int .i64 0)), (.sc (.int .i64 0)), (.sc (.int .i64 0)), (.sc (.int .i64 0))] [(0, 1, (.c (.sc (.int .i64 4)))), (1, 1, (.c (.sc (.int .i64 2)))), (2, 1, (.c (.sc (.int .i64 1))))]⟩] ++ mkL [56, 57] ([
  ⟨some 58, some (56, true), none, .objs [], .call (.c (.fn (.func 24) [] [])) [(.c (.sc (.int .i64 1))), (.c (.sc (.int .i64 0))), (.c (.sc (.int .i64 0)))]⟩,
  ⟨some 59, some (56, true), none, .objs [], .call (.c (.fn (.func 25) [] [])) [(.c (.sc (.int .i64 1))), (.c (.sc (.int .i64 0))), (.c (.sc (.int .i64 9)))]⟩,
  ⟨some 60, some (56, true), none, .objs [], .call (.c (.fn (.func 25) [] [])) [(.c (.sc (.int .i64 1))), (.c (.sc (.int .i64 0))), (.c (.sc (.int .i64 90)))]⟩,
  ⟨some 61, some (56, true), none, .objs [], .bs false 4 (.agg [(.sc (.int .i64 0)), (.sc (.int .i64 0)), (.sc (.int .i64 0)), (.sc (.int .i64 0))]) 3 [(0, (.v 58)), (1, (.v 59)), (2, (.v 60))]⟩,
  ⟨some 62, some (56, true), none, .objs [], .call (.c (.fn (.func 23) [] [])) [(.c (.sc (.int .i64 90))), (.v 57), (.v 61)]⟩,
  ⟨some 63, none, none, .objs [], .pk (.v 56) (.v 62) (.c (.sc (.bool false)))⟩,
  ⟨some 1, none, none, .objs [], .mv (.v 63)⟩]))) <|
  .seq (.ops ([
  ⟨some 64, none, none, .objs [], .mv (.v 1)⟩,
  ⟨some 65, none, none, .objs [], .mv (.v 64)⟩,
  ⟨some 66, some (65, true), none, .objs [], .bd [(.sc (.int .i64 0)), (.sc (.int .i64 0)), (.sc (.int .i64 0)), (.sc (.int .i64 0))] []⟩,
  ⟨some 67, some (65, true), none, .objs [], .call (.c (.fn (.func 24) [] [])) [(.c (.sc (.int .i64 2))), (.c (.sc (.int .i64 0))), (.c (.sc (.int .i64 0)))]⟩,
  ⟨some 68, some (65, true), none, .objs [], .call (.c (.fn (.func 24) [] [])) [(.c (.sc (.int .i64 2))), (.c (.sc (.int .i64 1))), (.c (.sc (.int .i64 0)))]⟩,
  ⟨some 69, some (65, true), none, .objs [], .call (.c (.fn (.func 25) [] [])) [(.c (.sc (.int .i64 2))), (.c (.sc (.int .i64 1))), (.c (.sc (.int .i64 1)))]⟩,
  ⟨some 70, some (65, true), none, .objs [], .call (.c (.fn (.func 25) [] [])) [(.c (.sc (.int .i64 2))), (.c (.sc (.int .i64 0))), (.c (.sc (.int .i64 1)))]⟩] ++ mkL [65, 66, 67, 68, 69, 70] ([
  ⟨some 71, some (65, true), none, .objs [], .bs false 4 (.agg [(.sc (.int .i64 0)), (.sc (.int .i64 0)), (.sc (.int .i64 0)), (.sc (.int .i64 0))]) 4 [(0, (.v 67)), (1, (.v 68)), (2, (.v 69)), (3, (.v 70))]⟩,
  ⟨some 72, some (65, true), none, .objs [], .call (.c (.fn (.func 23) [] [])) [(.c (.sc (.int .i64 3))), (.v 66), (.v 71)]⟩,
  ⟨some 73, none, none, .objs [], .pk (.v 65) (.v 72) (.c (.sc (.bool false)))⟩,
  ⟨some 1, none, none, .objs [], .mv (.v 73)⟩]))) <|
  .seq (.ops ([
  ⟨some 2, none, none, .objs [], .gmv 4 (.c (.sc (.slice none 0 0)))⟩])) <|
  .seq (.seq (.ops ([
  ⟨some 74, none, none, .objs [], .mv (.c (.sc (.int .i64 0)))⟩])) <|
  .block 0 (.loop (some [1, 2, 74]) il7l0)) <|
  .seq (.ops ([
  ⟨some 85, none, none, .objs [], .mv (.v 2)⟩,
  ⟨some 86, none, none, .objs [], .bd [(.sc (.int .i64 0)), (.sc (.int .i64 0)), (.sc (.int .i64 0)), (.sc (.int .i64 0))] []⟩,
  ⟨some 87, none, none, .objs [], .bs false 4 (.agg [(.sc (.int .i64 0)), (.sc (.int .i64 0)), (.sc (.int .i64 0)), (.sc (.int .i64 0))]) 1 [(0, (.v 86))]⟩,
  ⟨some 88, none, none, .objs [], .call (.c (.fn (.func 12) [] [])) [(.v 85), (.v 87), (.c (.sc (.int .i64 (-1))))]⟩,
  ⟨some 84, none, none, .objs [], .mv (.v 88)⟩,
  ⟨some 89, none, none, .objs [], .ex (.v 84) 0⟩,
  ⟨some 90, none, none, .objs [], .ex (.v 84) 1⟩,
  ⟨some 4, none, none, .objs [], .nw 4 (.agg [(.sc (.int .i64 0)), (.sc (.int .i64 0)), (.sc (.int .i64 0)), (.sc (.int .i64 0))])⟩,
  ⟨none, none, none, .objs [], .st 4 (.v 4) (.v 89)⟩,
  ⟨some 5, none, none, .objs [], .mv (.v 90)⟩])) <|
  .seq (.ops ([
  ⟨some 92, none, none, .objs [], .mv (.v 2)⟩,
  ⟨some 93, none, none, .objs [], .sl 4 (.v 92) none (some (.c (.sc (.int .i64 12)))) none⟩,
  ⟨some 94, none, none, .objs [], .bd [(.sc (.int .i64 0)), (.sc (.int .i64 0)), (.sc (.int .i64 0)), (.sc (.int .i64 0))] []⟩,
  ⟨some 95, none, none, .objs [], .bs false 4 (.agg [(.sc (.int .i64 0)), (.sc (.int .i64 0)), (.sc (.int .i64 0)), (.sc (.int .i64 0))]) 1 [(0, (.v 94))]⟩] ++ mkL [1, 2, 5, 93, 95] ([
  ⟨some 96, none, none, .objs [], .call (.c (.fn (.func 12) [] [])) [(.v 93), (.v 95), (.c (.sc (.int .i64 (-1))))]⟩,
  ⟨some 91, none, none, .objs [], .mv (.v 96)⟩,
  ⟨some 97, none, none, .objs [], .ex (.v 91) 0⟩,
  ⟨some 98, none, none, .objs [], .ex (.v 91) 1⟩,
  ⟨some 6, none, none, .objs [], .nw 4 (.agg [(.sc (.int .i64 0)), (.sc (.int .i64 0)), (.sc (.int .i64 0)), (.sc (.int .i64 0))])⟩,
  ⟨none, none, none, .objs [], .st 4 (.v 6) (.v 97)⟩,
  ⟨some 7, none, none, .objs [], .mv (.v 98)⟩]))) <|
  .seq (.ops ([
  ⟨some 100, none, none, .objs [], .mv (.v 2)⟩,
  ⟨some 101, none, none, .objs [], .sl 4 (.v 100) none (some (.c (.sc (.int .i64 12)))) none⟩,
  ⟨some 102, none, none, .objs [], .call (.c (.fn (.func 12) [] [])) [(.v 101), (.c (.sc (.slice none 0 0))), (.c (.sc (.int .i64 (-1))))]⟩,
  ⟨some 99, none, none, .objs [], .mv (.v 102)⟩,
  ⟨some 103, none, none, .objs [], .ex (.v 99) 0⟩,
  ⟨some 104, none, none, .objs [], .ex (.v 99) 1⟩,
  ⟨some 8, none, none, .objs [], .nw 4 (.agg [(.sc (.int .i64 0)), (.sc (.int .i64 0)), (.sc (.int .i64 0)), (.sc (.int .i64 0))])⟩] ++ mkL [1, 5, 7, 8, 103, 104] ([
  ⟨none, none, none, .objs [], .st 4 (.v 8) (.v 103)⟩,
  ⟨some 9, none, none, .objs [], .mv (.v 104)⟩]))) <|
  .seq (.ops ([
  ⟨some 106, none, none, .objs [], .call (.c (.fn (.func 12) [] [])) [(.c (.sc (.slice none 0 0))), (.c (.sc (.slice none 0 0))), (.c (.sc (.int .i64 1099511627776)))]⟩,
  ⟨some 105, none, none, .objs [], .mv (.v 106)⟩,
  ⟨some 107, none, none, .objs [], .ex (.v 105) 0⟩,
  ⟨some 108, none, none, .objs [], .ex (.v 105) 1⟩,
  ⟨some 10, none, none, .objs [], .nw 4 (.agg [(.sc (.int .i64 0)), (.sc (.int .i64 0)), (.sc (.int .i64 0)), (.sc (.int .i64 0))])⟩,
  ⟨none, none, none, .objs [], .st 4 (.v 10) (.v 107)⟩,
  ⟨some 11, none, none, .objs [], .mv (.v 108)⟩])) <|
  .seq (.ops ([
  ⟨some 109, none, none, .objs [], .raw (opOf Tryd.prog 7 17 0)⟩,
  ⟨some 12, none, none, .objs [], .mv (.v 109)⟩])) <|
  .seq (.seq (.ops ([
  ⟨some 110, none, none, .objs [], .mv (.v 12)⟩,
  ⟨some 111, none, none, .objs [], .lenS (.v 110)⟩,
  ⟨some 112, none, none, .objs [], .mv (.c (.sc (.int .i64 0)))⟩])) <| mkC [1, 5, 7, 9, 10, 11, 12, 111, 112] <|
  .block 2 (.loop (some [1, 5, 7, 9, 10, 11, 12, 111, 112]) il7l1)) <|
  .seq (.ops ([
  ⟨some 121, none, none, .objs [], .mv (.v 12)⟩,
  ⟨some 122, none, some [(.c (.fn (.func 16) [] [])), (.v 121), (.c (.sc (.int .i64 0)))], .objs [], .call (.c (.fn (.func 16) [] [])) [(.v 121), (.c (.sc (.int .i64 0)))]⟩,
  ⟨some 120, none, none, .objs [], .mv (.v 122)⟩,
  ⟨some 123, none, none, .objs [], .ex (.v 120) 0⟩,
  ⟨some 124, none, none, .objs [], .ex (.v 120) 1⟩,
  ⟨some 14, none, none, .objs [], .mv (.v 123)⟩,
  ⟨some 15, none, none, .objs [], .mv (.v 124)⟩])) <|
  .seq (.ops ([
  ⟨some 126, none, none, .objs [], .mv (.v 12)⟩,
  ⟨some 127, none, none, .objs [], .sl 4 (.v 126) (some (.c (.sc (.int .i64 1)))) none none⟩,
  ⟨some 128, none, none, .objs [], .call (.c (.fn (.func 16) [] [])) [(.v 127), (.c (.sc (.int .i64 0)))]⟩,
  ⟨some 125, none, none, .objs [], .mv (.v 128)⟩,
  ⟨some 129, none, none, .objs [], .ex (.v 125) 0⟩,
  ⟨some 130, none, none, .objs [], .ex (.v 125) 1⟩,
  ⟨some 16, none, none, .objs [], .mv (.v 129)⟩] ++ mkL [1, 5, 7, 9, 10, 11, 15, 16, 130] ([
  ⟨some 17, none, none, .objs [], .mv (.v 130)⟩]))) <|
  .seq (.ops ([
  ⟨some 132, none, none, .objs [], .bd [(.sc (.int .i64 0)), (.sc (.int .i64 0)), (.sc (.int .i64 0)), (.sc (.int .i64 0))] [(0, 1, (.c (.sc (.int .i64 8)))), (1, 1, (.c (.sc (.int .i64 (-1))))), (2, 1, (.c (.sc (.int .i64 4095)))), (3, 1, (.c (.sc (.int .i64 (-9223372036854775808)))))]⟩,
  ⟨some 133, none, none, .objs [], .call (.c (.fn (.func 19) [] [])) [(.v 132)]⟩,
  ⟨some 131, none, none, .objs [], .mv (.v 133)⟩,
  ⟨some 134, none, none, .objs [], .ex (.v 131) 0⟩,
  ⟨some 135, none, none, .objs [], .ex (.v 131) 1⟩,
  ⟨some 18, none, none, .objs [], .mv (.v 134)⟩,
  ⟨some 19, none, none, .objs [], .mv (.v 135)⟩])) <|
  .seq (.ops ([
  ⟨some 136, none, none, .objs [], .mv (.v 1)⟩,
  ⟨some 137, none, none, .objs [], .mv (.v 136)⟩,
  ⟨some 138, some (137, true), none, .objs [], .mv (.v 5)⟩,
  ⟨some 139, some (137, true), none, .objs [], .bin .eql false (.v 138) (.c (.sc (.int .i64 541)))⟩,
  ⟨some 140, none, none, .objs [], .pk (.v 137) (.v 139) (.c (.sc (.bool false)))⟩,
  ⟨some 141, none, none, .objs [], .mv (.v 140)⟩] ++ mkL [7, 9, 10, 11, 15, 16, 17, 18, 19, 141] ([
  ⟨some 142, some (141, true), none, .objs [], .mv (.v 7)⟩,
  ⟨some 143, some (141, true), none, .objs [], .bin .eql false (.v 142) (.c (.sc (.int .i64 540)))⟩,
  ⟨some 144, none, none, .objs [], .pk (.v 141) (.v 143) (.c (.sc (.bool false)))⟩,
  ⟨some 145, none, none, .objs [], .mv (.v 144)⟩,
  ⟨some 146, some (145, true), none, .objs [], .mv (.v 9)⟩,
  ⟨some 147, some (145, true), none, .objs [], .bin .eql false (.v 146) (.c (.sc (.int .i64 2)))⟩,
  ⟨some 148, none, none, .objs [], .pk (.v 145) (.v 147) (.c (.sc (.bool false)))⟩,
  ⟨some 149, none, none, .objs [], .mv (.v 148)⟩,
  ⟨some 150, some (149, true), none, .objs [], .ld true 4 (.v 10)⟩,
  ⟨some 151, some (149, true), none, .objs [], .bd [(.sc (.int .i64 0)), (.sc (.int .i64 0)), (.sc (.int .i64 0)), (.sc (.int .i64 0))] []⟩,
  ⟨some 152, some (149, true), none, .objs [], .raw (opOf Tryd.prog 7 26 16)⟩,
  ⟨some 153, none, none, .objs [], .pk (.v 149) (.v 152) (.c (.sc (.bool false)))⟩,
  ⟨some 154, none, none, .objs [], .mv (.v 153)⟩,
  ⟨some 155, some (154, true), none, .objs [], .mv (.v 11)⟩] ++ mkL [15, 16, 17, 18, 19, 154, 155] ([
  ⟨some 156, some (154, true), none, .objs [], .bin .eql false (.v 155) (.c (.sc (.int .i64 0)))⟩,
  ⟨some 157, none, none, .objs [], .pk (.v 154) (.v 156) (.c (.sc (.bool false)))⟩,
  ⟨some 158, none, none, .objs [], .mv (.v 157)⟩,
  ⟨some 159, some (158, true), none, .objs [], .mv (.v 15)⟩,
  ⟨some 160, some (158, true), none, .objs [], .bin .eql false (.v 159) (.c (.sc (.int .i64 540)))⟩,
  ⟨some 161, none, none, .objs [], .pk (.v 158) (.v 160) (.c (.sc (.bool false)))⟩,
  ⟨some 162, none, none, .objs [], .mv (.v 161)⟩,
  ⟨some 163, some (162, true), none, .objs [], .mv (.v 17)⟩,
  ⟨some 164, some (162, true), none, .objs [], .bin .eql false (.v 163) (.c (.sc (.int .i64 0)))⟩,
  ⟨some 165, none, none, .objs [], .pk (.v 162) (.v 164) (.c (.sc (.bool false)))⟩,
  ⟨some 166, none, none, .objs [], .mv (.v 165)⟩,
  ⟨some 167, some (166, true), none, .objs [], .mv (.v 16)⟩,
  ⟨some 168, some (166, true), none, .objs [], .lenS (.v 167)⟩,
  ⟨some 169, some (166, true), none, .objs [], .bin .eql false (.v 168) (.c (.sc (.int .i64 0)))⟩] ++ mkL [18, 19, 166, 169] ([
  ⟨some 170, none, none, .objs [], .pk (.v 166) (.v 169) (.c (.sc (.bool false)))⟩,
  ⟨some 1, none, none, .objs [], .mv (.v 170)⟩]))))) <|
  .seq (.ops ([
  ⟨some 171, none, none, .objs [], .mv (.c (.sc (.bool true)))⟩,
  ⟨some 172, some (171, true), none, .objs [], .call (.c (.fn (.func 9) [] [])) []⟩,
  ⟨some 173, none, none, .objs [], .pk (.v 171) (.v 172) (.c (.sc (.bool false)))⟩,
  ⟨some 174, none, none, .objs [], .mv (.v 173)⟩,
  ⟨some 175, some (174, true), none, .objs [], .mv (.v 1)⟩,
  ⟨some 176, none, none, .objs [], .pk (.v 174) (.v 175) (.c (.sc (.bool false)))⟩,
  ⟨some 177, none, none, .objs [], .mv (.v 176)⟩,
  ⟨some 178, some (177, true), none, .objs [], .mv (.v 19)⟩,
  ⟨some 179, some (177, true), none, .objs [], .bin .eql false (.v 178) (.c (.sc (.int .i64 0)))⟩,
  ⟨some 180, none, none, .objs [], .pk (.v 177) (.v 179) (.c (.sc (.bool false)))⟩,
  ⟨some 181, none, none, .objs [], .mv (.v 180)⟩,
  ⟨some 182, some (181, true), none, .objs [], .mv (.v 18)⟩] ++ mkL [181, 182] ([
  ⟨some 183, some (181, true), none, .objs [], .bin .eql false (.v 182) (.c (.sc (.string ⟨#[108, 111, 115, 116, 32, 45, 49, 32, 52, 48, 57, 53, 32, 45, 57, 50, 50, 51, 51, 55, 50, 48, 51, 54, 56, 53, 52, 55, 55, 53, 56, 48, 56]⟩)))⟩,
  ⟨some 184, none, none, .objs [], .pk (.v 181) (.v 183) (.c (.sc (.bool false)))⟩,
  ⟨some 185, none, none, .objs [], .mv (.v 184)⟩,
  ⟨some 186, some (185, true), none, .objs [], .bd [(.sc (.int .i64 0)), (.sc (.int .i64 0)), (.sc (.int .i64 0)), (.sc (.bool false))] [(0, 1, (.c (.sc (.int .i64 1)))), (1, 1, (.c (.sc (.int .i64 2)))), (2, 1, (.c (.sc (.int .i64 1))))]⟩,
  ⟨some 187, some (185, true), none, .objs [], .bs false 4 (.agg [(.sc (.int .i64 0)), (.sc (.int .i64 0)), (.sc (.int .i64 0)), (.sc (.bool false))]) 1 [(0, (.v 186))]⟩,
  ⟨some 188, some (185, true), none, .objs [], .call (.c (.fn (.func 26) [] [])) [(.v 187)]⟩,
  ⟨some 189, some (185, true), none, .objs [], .bin .eql false (.v 188) (.c (.sc (.int .i64 541)))⟩,
  ⟨some 190, none, none, .objs [], .pk (.v 185) (.v 189) (.c (.sc (.bool false)))⟩,
  ⟨some 0, none, none, .objs [], .mv (.v 190)⟩]))) <|
  .ret

theorem il7_eq : cFn Tryd.prog pol 7 = some ⟨191, il7c, [(0, none)]⟩ := by kernel_rfl
theorem raw7_17_0 {e : FEnv} {h : Heap} : iStep Tryd.prog pol 7 e h (.raw (opOf Tryd.prog 7 17 0)) = mkSl 4 32 (.agg [(.sc (.int .i64 0)), (.sc (.int .i64 0)), (.sc (.int .i64 0)), (.sc (.int .i64 0))]) h (asNat (Src.get e (.c (.sc (.int .i64 4097))))) (asNat (Src.get e (.c (.sc (.int .i64 4097))))) := raw_makeSlice (t := 23) (l := (.const (.int .i64 4097))) (c := (.const (.int .i64 4097))) (elem := 30) (by kernel_rfl) (by kernel_rfl) (by kernel_rfl) (by kernel_rfl) (by kernel_rfl) (by kernel_rfl)
theorem raw7_26_16 {e : FEnv} {h : Heap} : iStep Tryd.prog pol 7 e h (.raw (opOf Tryd.prog 7 26 16)) = vOf h (binE Tryd.prog false 34 (.tmp 150) (.tmp 151) (Src.get e (.v 150)) (Src.get e (.v 151))) := raw_eql (x := (.tmp 150)) (y := (.tmp 151)) (s := 34) (by kernel_rfl)

noncomputable def il10l0b : C :=
  .seq (.seq (.ops ([
  ⟨some 5, none, none, .objs [], .mv (.v 4)⟩,
  ⟨some 6, none, none, .objs [], .mv (.v 0)⟩,
  ⟨some 7, none, none, .objs [], .lenS (.v 6)⟩,
  ⟨some 8, none, none, .objs [], .bin .lss false (.v 5) (.v 7)⟩,
  ⟨some 9, none, none, .objs [], .mv (.v 8)⟩,
  ⟨some 10, some (9, true), none, .objs [], .mv (.v 4)⟩,
  ⟨some 11, some (9, true), none, .objs [], .bin .lss false (.v 10) (.c (.sc (.int .i64 12)))⟩,
  ⟨some 12, none, none, .objs [], .pk (.v 9) (.v 11) (.c (.sc (.bool false)))⟩])) <|
  .cond (.v 12) (.nop) (.exit 0)) <|
  .seq (.block 1 (.opsD [] ([
    ⟨some 15, none, none, .objs [], .mv (.v 3)⟩,
    ⟨some 16, none, none, .objs [], .mv (.v 4)⟩,
    ⟨some 17, none, none, .objs [], .bin .add false (.v 16) (.c (.sc (.int .i64 1)))⟩,
    ⟨some 18, none, none, .objs [], .mv (.v 0)⟩,
    ⟨some 19, none, none, .objs [], .mv (.v 4)⟩,
    ⟨some 20, none, none, .objs [], .iaS 3 (.v 18) (.v 19)⟩] ++ mkL [0, 4, 15, 17, 20] ([
    ⟨some 21, none, none, .objs [], .fa 0 (.v 20)⟩,
    ⟨some 22, none, none, .objs [(.v 21)], .ld false 1 (.v 21)⟩,
    ⟨some 23, none, none, .objs [], .cv .i64 (.v 22)⟩,
    ⟨some 24, none, none, .objs [], .mv (.v 0)⟩,
    ⟨some 25, none, none, .objs [], .mv (.v 4)⟩,
    ⟨some 26, none, none, .objs [], .iaS 3 (.v 24) (.v 25)⟩,
    ⟨some 27, none, none, .objs [], .fa 0 (.v 26)⟩,
    ⟨some 28, none, none, .objs [(.v 27)], .ld false 1 (.v 27)⟩,
    ⟨some 29, none, none, .objs [], .cv .i64 (.v 28)⟩,
    ⟨some 30, none, none, .objs [], .mv (.v 0)⟩,
    ⟨some 31, none, none, .objs [], .mv (.v 4)⟩,
    ⟨some 32, none, none, .objs [], .iaS 3 (.v 30) (.v 31)⟩,
    ⟨some 33, none, none, .objs [], .fa 1 (.v 32)⟩,
    ⟨some 34, none, none, .objs [(.v 33)], .ld false 1 (.v 33)⟩] ++ mkL [0, 4, 15, 17, 23, 29, 34] ([
    ⟨some 35, none, none, .objs [], .cv .i64 (.v 34)⟩,
    ⟨some 36, none, none, .objs [], .bin .add false (.v 29) (.v 35)⟩,
    ⟨some 37, none, none, .objs [], .mv (.v 0)⟩,
    ⟨some 38, none, none, .objs [], .mv (.v 4)⟩,
    ⟨some 39, none, none, .objs [], .iaS 3 (.v 37) (.v 38)⟩,
    ⟨some 40, none, none, .objs [], .fa 2 (.v 39)⟩,
    ⟨some 41, none, none, .objs [(.v 40)], .ld false 1 (.v 40)⟩,
    ⟨some 42, none, none, .objs [], .bd [(.sc (.int .i64 0)), (.sc (.int .i64 0)), (.sc (.int .i64 0)), (.sc (.bool false))] [(0, 1, (.v 17)), (1, 1, (.v 23)), (2, 1, (.v 36)), (3, 1, (.v 41))]⟩,
    ⟨some 43, none, none, .objs [], .bs false 4 (.agg [(.sc (.int .i64 0)), (.sc (.int .i64 0)), (.sc (.int .i64 0)), (.sc (.bool false))]) 1 [(0, (.v 42))]⟩,
    ⟨some 44, none, none, .objs [(.v 15), (.v 43)], .app 4 32 (.v 15) (.v 43)⟩,
    ⟨some 3, none, none, .objs [], .gmv 4 (.v 44)⟩]))))) <|
  .ops ([
  ⟨some 13, none, none, .objs [], .mv (.v 4)⟩,
  ⟨some 14, none, none, .objs [], .bin .add false (.v 13) (.c (.sc (.int .i64 1)))⟩,
  ⟨some 4, none, none, .objs [], .mv (.v 14)⟩])
noncomputable def il10l0 : C := il10l0b
theorem il10l0_go {P : Program} {pol : Pol} {K : Oracle} {I : Inl} {n : Nat} {f : FuncId} {R : Xit → FEnv → Heap → Prop} {e : FEnv} {h : Heap} : wc P pol K I n f il10l0 R e h = wc P pol K I n f il10l0b R e h := (fun x => x) rfl

noncomputable def il10c : C :=
  .seq (.ops ([
  ⟨some 2, none, none, .objs [], .mv (.c (.sc (.slice none 0 0)))⟩])) <|
  .seq (.ops ([
  ⟨some 3, none, none, .objs [], .gmv 4 (.c (.sc (.slice none 0 0)))⟩])) <|
  .seq (.seq (.ops ([
  ⟨some 4, none, none, .objs [], .mv (.c (.sc (.int .i64 0)))⟩])) <|
  .block 0 (.loop (some [0, 3, 4]) il10l0)) <|
  .seq (.ops ([
  ⟨some 45, none, none, .objs [], .mv (.v 3)⟩,
  ⟨some 2, none, none, .objs [], .mv (.v 45)⟩])) <|
  .ret

theorem il10_eq : cFn Tryd.prog pol 10 = some ⟨46, il10c, [(2, none)]⟩ := by kernel_rfl

noncomputable def il11l0b : C :=
  .seq (.seq (.ops ([
  ⟨some 7, none, none, .objs [], .mv (.v 5)⟩,
  ⟨some 8, none, none, .objs [], .mv (.v 0)⟩,
  ⟨some 9, none, none, .objs [], .lenS (.v 8)⟩,
  ⟨some 10, none, none, .objs [], .bin .lss false (.v 7) (.v 9)⟩,
  ⟨some 11, none, none, .objs [], .mv (.v 10)⟩,
  ⟨some 12, some (11, true), none, .objs [], .mv (.v 5)⟩,
  ⟨some 13, some (11, true), none, .objs [], .bin .lss false (.v 12) (.c (.sc (.int .i64 200)))⟩,
  ⟨some 14, none, none, .objs [], .pk (.v 11) (.v 13) (.c (.sc (.bool false)))⟩])) <|
  .cond (.v 14) (.nop) (.exit 0)) <|
  .seq (.block 1 (.seq (.ops ([
    ⟨some 17, none, none, .objs [], .mv (.v 4)⟩,
    ⟨some 18, none, none, .objs [], .mv (.v 0)⟩,
    ⟨some 19, none, none, .objs [], .mv (.v 5)⟩,
    ⟨some 20, none, none, .objs [], .iaS 5 (.v 18) (.v 19)⟩,
    ⟨some 21, none, none, .objs [], .fa 0 (.v 20)⟩,
    ⟨some 22, none, none, .objs [], .ld false 1 (.v 21)⟩] ++ mkL [0, 3, 5, 17, 22] ([
    ⟨some 23, none, none, .objs [], .cv .i64 (.v 22)⟩,
    ⟨some 24, none, none, .objs [], .bin .add false (.v 17) (.v 23)⟩,
    ⟨some 4, none, none, .objs [], .mv (.v 24)⟩]))) <|
    .seq (.opsD [(4, 16), (11, 16)] ([
    ⟨some 25, none, none, .objs [], .mv (.v 0)⟩,
    ⟨some 26, none, none, .objs [], .mv (.v 5)⟩,
    ⟨some 27, none, none, .objs [], .iaS 5 (.v 25) (.v 26)⟩,
    ⟨some 28, none, none, .objs [], .fa 2 (.v 27)⟩,
    ⟨some 29, none, none, .objs [(.v 28)], .ld false 1 (.v 28)⟩,
    ⟨some 30, none, none, .objs [], .bin .rem false (.v 29) (.c (.sc (.int .u8 4)))⟩,
    ⟨some 31, none, none, .objs [], .cv .i64 (.v 30)⟩,
    ⟨some 32, none, none, .objs [], .mv (.v 0)⟩,
    ⟨some 33, none, none, .objs [], .mv (.v 5)⟩,
    ⟨some 34, none, none, .objs [], .iaS 5 (.v 32) (.v 33)⟩,
    ⟨some 35, none, none, .objs [], .fa 3 (.v 34)⟩] ++ mkL [0, 3, 4, 5, 31, 35] ([
    ⟨some 36, none, none, .objs [(.v 35)], .ld false 1 (.v 35)⟩,
    ⟨some 37, none, none, .objs [], .bin .rem false (.v 36) (.c (.sc (.int .u8 16)))⟩,
    ⟨some 38, none, none, .objs [], .cv .i64 (.v 37)⟩,
    ⟨some 39, none, none, .objs [], .mv (.v 4)⟩,
    ⟨some 40, none, none, .objs [], .bd [(.sc (.int .i64 0)), (.sc (.int .i64 0)), (.sc (.int .i64 0)), (.sc (.int .i64 0))] [(0, 1, (.c (.sc (.int .i64 1)))), (1, 1, (.v 31)), (2, 1, (.v 38)), (3, 1, (.v 39))]⟩,
    ⟨some 6, none, none, .objs [], .nw 4 (.agg [(.sc (.int .i64 0)), (.sc (.int .i64 0)), (.sc (.int .i64 0)), (.sc (.int .i64 0))])⟩,
    ⟨none, none, none, .objs [(.v 6)], .st 4 (.v 6) (.v 40)⟩]))) <|
    .seq (.seq (.ops ([
    ⟨some 41, none, none, .objs [], .mv (.v 0)⟩,
    ⟨some 42, none, none, .objs [], .mv (.v 5)⟩,
    ⟨some 43, none, none, .objs [], .iaS 5 (.v 41) (.v 42)⟩,
    ⟨some 44, none, none, .objs [], .fa 1 (.v 43)⟩,
    ⟨some 45, none, none, .objs [], .ld false 1 (.v 44)⟩])) <|
    .cond (.v 45) (.ops ([
      ⟨some 46, none, none, .objs [], .fa 0 (.v 6)⟩,
      ⟨none, none, none, .objs [], .st 1 (.v 46) (.c (.sc (.int .i64 2)))⟩])) (.nop)) <| mkC [0, 3, 4, 5, 6] <|
    .ops ([
    ⟨some 47, none, none, .objs [], .mv (.v 3)⟩,
    ⟨some 48, none, none, .objs [], .ld true 4 (.v 6)⟩,
    ⟨some 49, none, none, .objs [], .bs false 4 (.agg [(.sc (.int .i64 0)), (.sc (.int .i64 0)), (.sc (.int .i64 0)), (.sc (.int .i64 0))]) 1 [(0, (.v 48))]⟩,
    ⟨some 50, none, none, .objs [], .app 4 32 (.v 47) (.v 49)⟩,
    ⟨some 3, none, none, .objs [], .gmv 4 (.v 50)⟩]))) <|
  .ops ([
  ⟨some 15, none, none, .objs [], .mv (.v 5)⟩,
  ⟨some 16, none, none, .objs [], .bin .add false (.v 15) (.c (.sc (.int .i64 1)))⟩,
  ⟨some 5, none, none, .objs [], .mv (.v 16)⟩])
noncomputable def il11l0 : C := il11l0b
theorem il11l0_go {P : Program} {pol : Pol} {K : Oracle} {I : Inl} {n : Nat} {f : FuncId} {R : Xit → FEnv → Heap → Prop} {e : FEnv} {h : Heap} : wc P pol K I n f il11l0 R e h = wc P pol K I n f il11l0b R e h := (fun x => x) rfl

noncomputable def il11c : C :=
  .seq (.ops ([
  ⟨some 2, none, none, .objs [], .mv (.c (.sc (.slice none 0 0)))⟩])) <|
  .seq (.ops ([
  ⟨some 3, none, none, .objs [], .gmv 4 (.c (.sc (.slice none 0 0)))⟩])) <|
  .seq (.ops ([
  ⟨some 4, none, none, .objs [], .mv (.c (.sc (.int .i64 0)))⟩])) <|
  .seq (.seq (.ops ([
  ⟨some 5, none, none, .objs [], .mv (.c (.sc (.int .i64 0)))⟩])) <|
  .block 0 (.loop (some [0, 3, 4, 5]) il11l0)) <|
  .seq (.ops ([
  ⟨some 51, none, none, .objs [], .mv (.v 3)⟩,
  ⟨some 2, none, none, .objs [], .mv (.v 51)⟩])) <|
  .ret

theorem il11_eq : cFn Tryd.prog pol 11 = some ⟨52, il11c, [(2, none)]⟩ := by kernel_rfl

noncomputable def il13l0b : C :=
  .seq (.seq (.ops ([
  ⟨some 5, none, none, .objs [], .mv (.v 3)⟩,
  ⟨some 6, none, none, .objs [], .mv (.v 0)⟩,
  ⟨some 7, none, none, .objs [], .lenS (.v 6)⟩,
  ⟨some 8, none, none, .objs [], .bin .lss false (.v 5) (.v 7)⟩])) <|
  .cond (.v 8) (.nop) (.exit 0)) <|
  .seq (.block 1 (.seq (.ops ([
    ⟨some 11, none, none, .objs [], .mv (.v 0)⟩,
    ⟨some 12, none, none, .objs [], .mv (.v 3)⟩,
    ⟨some 13, none, none, .objs [], .iaS 4 (.v 11) (.v 12)⟩,
    ⟨some 14, none, none, .objs [], .ld true 4 (.v 13)⟩,
    ⟨some 4, none, none, .objs [], .nw 4 (.agg [(.sc (.int .i64 0)), (.sc (.int .i64 0)), (.sc (.int .i64 0)), (.sc (.bool false))])⟩,
    ⟨none, none, none, .objs [], .st 4 (.v 4) (.v 14)⟩])) <|
    .seq (.opsD [] ([
    ⟨some 15, none, none, .objs [], .fa 0 (.v 4)⟩,
    ⟨some 16, none, none, .objs [(.v 15)], .ld false 1 (.v 15)⟩,
    ⟨some 17, none, none, .objs [], .bin .lss false (.v 16) (.c (.sc (.int .i64 1)))⟩,
    ⟨some 18, none, none, .objs [], .mv (.v 17)⟩] ++ mkL [0, 3, 4, 18] ([
    ⟨some 19, some (18, false), none, .objs [], .fa 0 (.v 4)⟩,
    ⟨some 20, some (18, false), none, .objs [(.v 19)], .ld false 1 (.v 19)⟩,
    ⟨some 21, some (18, false), none, .objs [], .bin .gtr false (.v 20) (.c (.sc (.int .i64 4095)))⟩,
    ⟨some 22, none, none, .objs [], .pk (.v 18) (.c (.sc (.bool true))) (.v 21)⟩,
    ⟨some 23, none, none, .objs [], .mv (.v 22)⟩,
    ⟨some 24, some (23, false), none, .objs [], .mv (.v 3)⟩,
    ⟨some 25, some (23, false), none, .objs [], .bin .gtr false (.v 24) (.c (.sc (.int .i64 0)))⟩,
    ⟨some 26, some (23, false), none, .objs [], .mv (.v 25)⟩,
    ⟨some 27, some (26, true), none, .objs [], .mv (.v 0)⟩,
    ⟨some 28, some (26, true), none, .objs [], .mv (.v 3)⟩,
    ⟨some 29, some (26, true), none, .objs [], .bin .sub false (.v 28) (.c (.sc (.int .i64 1)))⟩,
    ⟨some 30, some (26, true), none, .objs [], .iaS 4 (.v 27) (.v 29)⟩,
    ⟨some 31, some (26, true), none, .objs [], .fa 0 (.v 30)⟩,
    ⟨some 32, some (26, true), none, .objs [(.v 31)], .ld false 1 (.v 31)⟩] ++ mkL [0, 3, 4, 23, 26, 32] ([
    ⟨some 33, some (26, true), none, .objs [], .fa 0 (.v 4)⟩,
    ⟨some 34, some (26, true), none, .objs [(.v 33)], .ld false 1 (.v 33)⟩,
    ⟨some 35, some (26, true), none, .objs [], .bin .geq false (.v 32) (.v 34)⟩,
    ⟨some 36, some (23, false), none, .objs [], .pk (.v 26) (.v 35) (.c (.sc (.bool false)))⟩,
    ⟨some 37, none, none, .objs [], .pk (.v 23) (.c (.sc (.bool true))) (.v 36)⟩,
    ⟨some 38, none, none, .objs [], .mv (.v 37)⟩,
    ⟨some 39, some (38, false), none, .objs [], .fa 1 (.v 4)⟩,
    ⟨some 40, some (38, false), none, .objs [(.v 39)], .ld false 1 (.v 39)⟩,
    ⟨some 41, some (38, false), none, .objs [], .bin .lss false (.v 40) (.c (.sc (.int .i64 0)))⟩,
    ⟨some 42, none, none, .objs [], .pk (.v 38) (.c (.sc (.bool true))) (.v 41)⟩,
    ⟨some 43, none, none, .objs [], .mv (.v 42)⟩,
    ⟨some 44, some (43, false), none, .objs [], .fa 1 (.v 4)⟩,
    ⟨some 45, some (43, false), none, .objs [(.v 44)], .ld false 1 (.v 44)⟩,
    ⟨some 46, some (43, false), none, .objs [], .fa 2 (.v 4)⟩] ++ mkL [0, 3, 4, 43, 45, 46] ([
    ⟨some 47, some (43, false), none, .objs [(.v 46)], .ld false 1 (.v 46)⟩,
    ⟨some 48, some (43, false), none, .objs [], .bin .gtr false (.v 45) (.v 47)⟩,
    ⟨some 49, none, none, .objs [], .pk (.v 43) (.c (.sc (.bool true))) (.v 48)⟩,
    ⟨some 50, none, none, .objs [], .mv (.v 49)⟩,
    ⟨some 51, some (50, false), none, .objs [], .fa 2 (.v 4)⟩,
    ⟨some 52, some (50, false), none, .objs [(.v 51)], .ld false 1 (.v 51)⟩,
    ⟨some 53, some (50, false), none, .objs [], .bin .gtr false (.v 52) (.c (.sc (.int .i64 1099511627776)))⟩,
    ⟨some 54, none, none, .objs [], .pk (.v 50) (.c (.sc (.bool true))) (.v 53)⟩]))))) <|
    .cond (.v 54) (.seq (.ops ([
      ⟨some 2, none, none, .objs [], .mv (.c (.sc (.bool false)))⟩])) <|
      .ret) (.nop))) <|
  .ops ([
  ⟨some 9, none, none, .objs [], .mv (.v 3)⟩,
  ⟨some 10, none, none, .objs [], .bin .add false (.v 9) (.c (.sc (.int .i64 1)))⟩,
  ⟨some 3, none, none, .objs [], .mv (.v 10)⟩])
noncomputable def il13l0 : C := il13l0b
theorem il13l0_go {P : Program} {pol : Pol} {K : Oracle} {I : Inl} {n : Nat} {f : FuncId} {R : Xit → FEnv → Heap → Prop} {e : FEnv} {h : Heap} : wc P pol K I n f il13l0 R e h = wc P pol K I n f il13l0b R e h := (fun x => x) rfl

noncomputable def il13c : C :=
  .seq (.ops ([
  ⟨some 2, none, none, .objs [], .mv (.c (.sc (.bool false)))⟩])) <|
  .seq (.seq (.ops ([
  ⟨some 3, none, none, .objs [], .mv (.c (.sc (.int .i64 0)))⟩])) <|
  .block 0 (.loop (some [0, 3]) il13l0)) <|
  .seq (.ops ([
  ⟨some 55, none, none, .objs [], .mv (.v 0)⟩,
  ⟨some 56, none, none, .objs [], .lenS (.v 55)⟩,
  ⟨some 57, none, none, .objs [], .bin .leq false (.v 56) (.c (.sc (.int .i64 12)))⟩,
  ⟨some 2, none, none, .objs [], .mv (.v 57)⟩])) <|
  .ret

theorem il13_eq : cFn Tryd.prog pol 13 = some ⟨58, il13c, [(2, none)]⟩ := by kernel_rfl

noncomputable def il14l0b : C :=
  .seq (.seq (.ops ([
  ⟨some 5, none, none, .objs [], .mv (.v 3)⟩,
  ⟨some 6, none, none, .objs [], .mv (.v 0)⟩,
  ⟨some 7, none, none, .objs [], .lenS (.v 6)⟩,
  ⟨some 8, none, none, .objs [], .bin .lss false (.v 5) (.v 7)⟩])) <|
  .cond (.v 8) (.nop) (.exit 0)) <|
  .seq (.block 1 (.seq (.ops ([
    ⟨some 11, none, none, .objs [], .mv (.v 0)⟩,
    ⟨some 12, none, none, .objs [], .mv (.v 3)⟩,
    ⟨some 13, none, none, .objs [], .iaS 4 (.v 11) (.v 12)⟩,
    ⟨some 14, none, none, .objs [], .ld true 4 (.v 13)⟩,
    ⟨some 4, none, none, .objs [], .nw 4 (.agg [(.sc (.int .i64 0)), (.sc (.int .i64 0)), (.sc (.int .i64 0)), (.sc (.int .i64 0))])⟩,
    ⟨none, none, none, .objs [], .st 4 (.v 4) (.v 14)⟩])) <|
    .seq (.opsD [] ([
    ⟨some 15, none, none, .objs [], .fa 0 (.v 4)⟩,
    ⟨some 16, none, none, .objs [(.v 15)], .ld false 1 (.v 15)⟩,
    ⟨some 17, none, none, .objs [], .bin .neq false (.v 16) (.c (.sc (.int .i64 1)))⟩,
    ⟨some 18, none, none, .objs [], .mv (.v 17)⟩] ++ mkL [0, 3, 4, 18] ([
    ⟨some 19, some (18, true), none, .objs [], .fa 0 (.v 4)⟩,
    ⟨some 20, some (18, true), none, .objs [(.v 19)], .ld false 1 (.v 19)⟩,
    ⟨some 21, some (18, true), none, .objs [], .bin .neq false (.v 20) (.c (.sc (.int .i64 2)))⟩,
    ⟨some 22, none, none, .objs [], .pk (.v 18) (.v 21) (.c (.sc (.bool false)))⟩,
    ⟨some 23, none, none, .objs [], .mv (.v 22)⟩,
    ⟨some 24, some (23, false), none, .objs [], .fa 1 (.v 4)⟩,
    ⟨some 25, some (23, false), none, .objs [(.v 24)], .ld false 1 (.v 24)⟩,
    ⟨some 26, some (23, false), none, .objs [], .bin .lss false (.v 25) (.c (.sc (.int .i64 0)))⟩,
    ⟨some 27, none, none, .objs [], .pk (.v 23) (.c (.sc (.bool true))) (.v 26)⟩,
    ⟨some 28, none, none, .objs [], .mv (.v 27)⟩,
    ⟨some 29, some (28, false), none, .objs [], .fa 1 (.v 4)⟩,
    ⟨some 30, some (28, false), none, .objs [(.v 29)], .ld false 1 (.v 29)⟩,
    ⟨some 31, some (28, false), none, .objs [], .bin .gtr false (.v 30) (.c (.sc (.int .i64 4095)))⟩,
    ⟨some 32, none, none, .objs [], .pk (.v 28) (.c (.sc (.bool true))) (.v 31)⟩] ++ mkL [0, 3, 4, 32] ([
    ⟨some 33, none, none, .objs [], .mv (.v 32)⟩,
    ⟨some 34, some (33, false), none, .objs [], .fa 2 (.v 4)⟩,
    ⟨some 35, some (33, false), none, .objs [(.v 34)], .ld false 1 (.v 34)⟩,
    ⟨some 36, some (33, false), none, .objs [], .bin .lss false (.v 35) (.c (.sc (.int .i64 0)))⟩,
    ⟨some 37, none, none, .objs [], .pk (.v 33) (.c (.sc (.bool true))) (.v 36)⟩,
    ⟨some 38, none, none, .objs [], .mv (.v 37)⟩,
    ⟨some 39, some (38, false), none, .objs [], .fa 2 (.v 4)⟩,
    ⟨some 40, some (38, false), none, .objs [(.v 39)], .ld false 1 (.v 39)⟩,
    ⟨some 41, some (38, false), none, .objs [], .bin .gtr false (.v 40) (.c (.sc (.int .i64 65535)))⟩,
    ⟨some 42, none, none, .objs [], .pk (.v 38) (.c (.sc (.bool true))) (.v 41)⟩,
    ⟨some 43, none, none, .objs [], .mv (.v 42)⟩,
    ⟨some 44, some (43, false), none, .objs [], .fa 3 (.v 4)⟩,
    ⟨some 45, some (43, false), none, .objs [(.v 44)], .ld false 1 (.v 44)⟩,
    ⟨some 46, some (43, false), none, .objs [], .bin .lss false (.v 45) (.c (.sc (.int .i64 0)))⟩] ++ mkL [0, 3, 4, 43, 46] ([
    ⟨some 47, none, none, .objs [], .pk (.v 43) (.c (.sc (.bool true))) (.v 46)⟩,
    ⟨some 48, none, none, .objs [], .mv (.v 47)⟩,
    ⟨some 49, some (48, false), none, .objs [], .fa 3 (.v 4)⟩,
    ⟨some 50, some (48, false), none, .objs [(.v 49)], .ld false 1 (.v 49)⟩,
    ⟨some 51, some (48, false), none, .objs [], .bin .gtr false (.v 50) (.c (.sc (.int .i64 1099511627776)))⟩,
    ⟨some 52, none, none, .objs [], .pk (.v 48) (.c (.sc (.bool true))) (.v 51)⟩,
    ⟨some 53, none, none, .objs [], .mv (.v 52)⟩,
    ⟨some 54, some (53, false), none, .objs [], .mv (.v 3)⟩,
    ⟨some 55, some (53, false), none, .objs [], .bin .gtr false (.v 54) (.c (.sc (.int .i64 0)))⟩,
    ⟨some 56, some (53, false), none, .objs [], .mv (.v 55)⟩,
    ⟨some 57, some (56, true), none, .objs [], .mv (.v 0)⟩,
    ⟨some 58, some (56, true), none, .objs [], .mv (.v 3)⟩,
    ⟨some 59, some (56, true), none, .objs [], .bin .sub false (.v 58) (.c (.sc (.int .i64 1)))⟩,
    ⟨some 60, some (56, true), none, .objs [], .iaS 4 (.v 57) (.v 59)⟩] ++ mkL [0, 3, 4, 53, 56, 60] ([
    ⟨some 61, some (56, true), none, .objs [], .fa 3 (.v 60)⟩,
    ⟨some 62, some (56, true), none, .objs [(.v 61)], .ld false 1 (.v 61)⟩,
    ⟨some 63, some (56, true), none, .objs [], .fa 3 (.v 4)⟩,
    ⟨some 64, some (56, true), none, .objs [(.v 63)], .ld false 1 (.v 63)⟩,
    ⟨some 65, some (56, true), none, .objs [], .bin .gtr false (.v 62) (.v 64)⟩,
    ⟨some 66, some (53, false), none, .objs [], .pk (.v 56) (.v 65) (.c (.sc (.bool false)))⟩,
    ⟨some 67, none, none, .objs [], .pk (.v 53) (.c (.sc (.bool true))) (.v 66)⟩])))))) <|
    .cond (.v 67) (.seq (.ops ([
      ⟨some 2, none, none, .objs [], .mv (.c (.sc (.bool false)))⟩])) <|
      .ret) (.nop))) <|
  .ops ([
  ⟨some 9, none, none, .objs [], .mv (.v 3)⟩,
  ⟨some 10, none, none, .objs [], .bin .add false (.v 9) (.c (.sc (.int .i64 1)))⟩,
  ⟨some 3, none, none, .objs [], .mv (.v 10)⟩])
noncomputable def il14l0 : C := il14l0b
theorem il14l0_go {P : Program} {pol : Pol} {K : Oracle} {I : Inl} {n : Nat} {f : FuncId} {R : Xit → FEnv → Heap → Prop} {e : FEnv} {h : Heap} : wc P pol K I n f il14l0 R e h = wc P pol K I n f il14l0b R e h := (fun x => x) rfl

noncomputable def il14c : C :=
  .seq (.ops ([
  ⟨some 2, none, none, .objs [], .mv (.c (.sc (.bool false)))⟩])) <|
  .seq (.seq (.ops ([
  ⟨some 3, none, none, .objs [], .mv (.c (.sc (.int .i64 0)))⟩])) <|
  .block 0 (.loop (some [0, 3]) il14l0)) <|
  .seq (.ops ([
  ⟨some 68, none, none, .objs [], .mv (.v 0)⟩,
  ⟨some 69, none, none, .objs [], .lenS (.v 68)⟩,
  ⟨some 70, none, none, .objs [], .bin .leq false (.v 69) (.c (.sc (.int .i64 4096)))⟩,
  ⟨some 2, none, none, .objs [], .mv (.v 70)⟩])) <|
  .ret

theorem il14_eq : cFn Tryd.prog pol 14 = some ⟨71, il14c, [(2, none)]⟩ := by kernel_rfl

noncomputable def il16l0b : C :=
  .seq (.ops ([
  ⟨some 28, none, none, .objs [], .bin .lss false (.v 27) (.v 26)⟩])) <|
  .seq (.cond (.v 28) (.nop) (.exit 0)) <|
  .seq (.block 1 (.seq (.ops ([
    ⟨some 29, none, none, .objs [], .iaS 4 (.v 25) (.v 27)⟩,
    ⟨some 30, none, none, .objs [], .ld true 4 (.v 29)⟩,
    ⟨some 10, none, none, .objs [], .nw 4 (.agg [(.sc (.int .i64 0)), (.sc (.int .i64 0)), (.sc (.int .i64 0)), (.sc (.int .i64 0))])⟩,
    ⟨none, none, none, .objs [], .st 4 (.v 10) (.v 30)⟩])) <|
    .seq (.seq (.ops ([
    ⟨some 31, none, none, .objs [], .fa 1 (.v 10)⟩,
    ⟨some 32, none, none, .objs [], .ld false 1 (.v 31)⟩,
    ⟨some 33, none, none, .objs [], .mv (.v 1)⟩,
    ⟨some 34, none, none, .objs [], .bin .neq false (.v 32) (.v 33)⟩])) <|
    .cond (.v 34) (.exit 1) (.nop)) <|
    .seq (.ops ([
    ⟨some 36, none, none, .objs [], .mv (.v 8)⟩,
    ⟨some 37, none, none, .objs [], .ld true 4 (.v 10)⟩,
    ⟨some 38, none, none, .objs [], .call (.c (.fn (.func 35) [] [])) [(.v 37)]⟩,
    ⟨some 39, none, none, .objs [], .raw (opOf Tryd.prog 16 12 3)⟩,
    ⟨some 35, none, none, .objs [], .mv (.v 39)⟩] ++ mkL [1, 7, 8, 10, 25, 26, 27, 35] ([
    ⟨some 40, none, none, .objs [], .ex (.v 35) 0⟩,
    ⟨some 41, none, none, .objs [], .ex (.v 35) 1⟩,
    ⟨some 11, none, none, .objs [], .mv (.v 40)⟩,
    ⟨some 12, none, none, .objs [], .mv (.v 41)⟩]))) <|
    .block 2 (.seq (.ops ([
      ⟨some 43, none, none, .objs [], .fa 0 (.v 10)⟩,
      ⟨some 44, none, none, .objs [], .ld false 1 (.v 43)⟩,
      ⟨some 45, none, none, .objs [], .bin .eql false (.v 44) (.c (.sc (.int .i64 1)))⟩,
      ⟨some 46, none, none, .objs [], .mv (.v 45)⟩,
      ⟨some 47, some (46, true), none, .objs [], .mv (.v 12)⟩,
      ⟨some 48, some (46, true), none, .objs [], .nt (.v 47)⟩,
      ⟨some 49, none, none, .objs [], .pk (.v 46) (.v 48) (.c (.sc (.bool false)))⟩,
      ⟨some 42, none, none, .objs [], .mv (.v 49)⟩])) <|
      .cond (.v 42) (.opsD [(2, 4)] ([
        ⟨some 50, none, none, .objs [], .mv (.v 8)⟩,
        ⟨some 51, none, none, .objs [(.v 10)], .ld true 4 (.v 10)⟩] ++ mkL [1, 7, 8, 10, 25, 26, 27, 50, 51] ([
        ⟨some 52, none, none, .cal (.c (.fn (.func 35) [] [])) [(.v 51)], .call (.c (.fn (.func 35) [] [])) [(.v 51)]⟩,
        ⟨some 53, none, none, .objs [], .fa 3 (.v 10)⟩,
        ⟨some 54, none, none, .objs [(.v 53)], .ld false 1 (.v 53)⟩,
        ⟨none, none, none, .objs [(.v 50)], .raw (opOf Tryd.prog 16 14 5)⟩]))) (.seq (.ops ([
        ⟨some 56, none, none, .objs [], .fa 0 (.v 10)⟩,
        ⟨some 57, none, none, .objs [], .ld false 1 (.v 56)⟩] ++ mkL [1, 7, 8, 10, 11, 12, 25, 26, 27, 57] ([
        ⟨some 58, none, none, .objs [], .bin .eql false (.v 57) (.c (.sc (.int .i64 2)))⟩,
        ⟨some 59, none, none, .objs [], .mv (.v 58)⟩,
        ⟨some 60, some (59, true), none, .objs [], .mv (.v 12)⟩,
        ⟨some 61, none, none, .objs [], .pk (.v 59) (.v 60) (.c (.sc (.bool false)))⟩,
        ⟨some 55, none, none, .objs [], .mv (.v 61)⟩]))) <|
        .cond (.v 55) (.ops ([
          ⟨some 62, none, none, .objs [], .mv (.v 7)⟩,
          ⟨some 63, none, none, .objs [], .fa 3 (.v 10)⟩,
          ⟨some 64, none, none, .objs [], .ld false 1 (.v 63)⟩,
          ⟨some 65, none, none, .objs [], .mv (.v 11)⟩,
          ⟨some 66, none, none, .objs [], .bin .sub false (.v 64) (.v 65)⟩,
          ⟨some 67, none, none, .objs [], .bs false 1 (.sc (.int .i64 0)) 1 [(0, (.v 66))]⟩,
          ⟨some 68, none, none, .objs [], .app 1 8 (.v 62) (.v 67)⟩,
          ⟨some 7, none, none, .objs [], .gmv 1 (.v 68)⟩])) (.nop))))) <|
  .ops ([
  ⟨some 69, none, none, .objs [], .bin .add false (.v 27) (.c (.sc (.int .i64 1)))⟩] ++ mkL [1, 7, 8, 25, 26, 69] ([
  ⟨some 27, none, none, .objs [], .mv (.v 69)⟩]))
noncomputable def il16l0 : C := il16l0b
theorem il16l0_go {P : Program} {pol : Pol} {K : Oracle} {I : Inl} {n : Nat} {f : FuncId} {R : Xit → FEnv → Heap → Prop} {e : FEnv} {h : Heap} : wc P pol K I n f il16l0 R e h = wc P pol K I n f il16l0b R e h := (fun x => x) rfl

noncomputable def il16c : C :=
  .seq (.ops ([
  ⟨some 4, none, none, .objs [], .mv (.c (.sc (.slice none 0 0)))⟩,
  ⟨some 5, none, none, .objs [], .mv (.c (.sc (.int .i64 0)))⟩])) <|
  .seq (.seq (.ops ([
  ⟨some 13, none, none, .objs [], .mv (.v 0)⟩,
  ⟨some 14, none, none, .objs [], .call (.c (.fn (.func 29) [] [])) [(.v 13)]⟩,
  ⟨some 6, none, none, .objs [], .mv (.v 14)⟩])) <|
  .seq (.ops ([
  ⟨some 15, none, none, .objs [], .mv (.v 6)⟩,
  ⟨some 16, none, none, .objs [], .bin .neq false (.v 15) (.c (.sc (.int .i64 0)))⟩])) <|
  .cond (.v 16) (.seq (.ops ([
    ⟨some 17, none, none, .objs [], .mv (.v 6)⟩,
    ⟨some 4, none, none, .objs [], .mv (.c (.sc (.slice none 0 0)))⟩,
    ⟨some 5, none, none, .objs [], .mv (.v 17)⟩])) <|
    .ret) (.nop)) <|
  .seq (.seq (.ops ([
  ⟨some 18, none, none, .objs [], .mv (.v 1)⟩,
  ⟨some 19, none, none, .objs [], .bin .lss false (.v 18) (.c (.sc (.int .i64 0)))⟩,
  ⟨some 20, none, none, .objs [], .mv (.v 19)⟩,
  ⟨some 21, some (20, false), none, .objs [], .mv (.v 1)⟩] ++ mkL [0, 1, 20, 21] ([
  ⟨some 22, some (20, false), none, .objs [], .bin .gtr false (.v 21) (.c (.sc (.int .i64 4095)))⟩,
  ⟨some 23, none, none, .objs [], .pk (.v 20) (.c (.sc (.bool true))) (.v 22)⟩]))) <|
  .cond (.v 23) (.seq (.ops ([
    ⟨some 4, none, none, .objs [], .mv (.c (.sc (.slice none 0 0)))⟩,
    ⟨some 5, none, none, .objs [], .mv (.c (.sc (.int .i64 2)))⟩])) <|
    .ret) (.nop)) <|
  .seq (.ops ([
  ⟨some 7, none, none, .objs [], .gmv 1 (.c (.sc (.slice none 0 0)))⟩])) <|
  .seq (.ops ([
  ⟨some 24, none, none, .objs [], .raw (opOf Tryd.prog 16 7 0)⟩,
  ⟨some 8, none, none, .objs [], .mv (.v 24)⟩])) <|
  .seq (.seq (.ops ([
  ⟨some 25, none, none, .objs [], .mv (.v 0)⟩,
  ⟨some 26, none, none, .objs [], .lenS (.v 25)⟩,
  ⟨some 27, none, none, .objs [], .mv (.c (.sc (.int .i64 0)))⟩])) <|
  .block 0 (.loop (some [1, 7, 8, 25, 26, 27]) il16l0)) <|
  .seq (.ops ([
  ⟨some 70, none, none, .objs [], .mv (.v 7)⟩,
  ⟨some 4, none, none, .objs [], .mv (.v 70)⟩,
  ⟨some 5, none, none, .objs [], .mv (.c (.sc (.int .i64 0)))⟩])) <|
  .ret

theorem il16_eq : cFn Tryd.prog pol 16 = some ⟨71, il16c, [(4, none), (5, none)]⟩ := by kernel_rfl
theorem raw16_7_0 {e : FEnv} {h : Heap} : iStep Tryd.prog pol 16 e h (.raw (opOf Tryd.prog 16 7 0)) = some (.val (.mp h.length) (h ++ [.map []])) := raw_makeMap (t := 87) (by kernel_rfl)
theorem raw16_12_3 {e : FEnv} {h : Heap} : iStep Tryd.prog pol 16 e h (.raw (opOf Tryd.prog 16 12 3)) = vOf h (lkV Tryd.prog 87 true h (Src.get e (.v 36)) (Src.get e (.v 38))) := raw_lookup (x := (.tmp 36)) (ix := (.tmp 38)) (by kernel_rfl)
theorem raw16_14_5 {e : FEnv} {h : Heap} : iStep Tryd.prog pol 16 e h (.raw (opOf Tryd.prog 16 14 5)) = hOf (upV Tryd.prog 87 h (Src.get e (.v 50)) (Src.get e (.v 52)) (Src.get e (.v 54))) := raw_update (m := (.tmp 50)) (k := (.tmp 52)) (x := (.tmp 54)) (by kernel_rfl)

noncomputable def il17l0b : C :=
  .seq (.seq (.ops ([
  ⟨some 8, none, none, .objs [], .mv (.v 6)⟩,
  ⟨some 9, none, none, .objs [], .mv (.v 0)⟩,
  ⟨some 10, none, none, .objs [], .lenS (.v 9)⟩,
  ⟨some 11, none, none, .objs [], .bin .lss false (.v 8) (.v 10)⟩])) <|
  .cond (.v 11) (.nop) (.exit 0)) <|
  .seq (.block 1 (.seq (.seq (.ops ([
    ⟨some 14, none, none, .objs [], .mv (.v 0)⟩,
    ⟨some 15, none, none, .objs [], .mv (.v 6)⟩,
    ⟨some 16, none, none, .objs [], .iaS 4 (.v 14) (.v 15)⟩,
    ⟨some 17, none, none, .objs [], .fa 0 (.v 16)⟩,
    ⟨some 18, none, none, .objs [], .ld false 1 (.v 17)⟩,
    ⟨some 19, none, none, .objs [], .bin .neq false (.v 18) (.c (.sc (.int .i64 2)))⟩,
    ⟨some 20, none, none, .objs [], .mv (.v 19)⟩,
    ⟨some 21, some (20, false), none, .objs [], .mv (.v 0)⟩,
    ⟨some 22, some (20, false), none, .objs [], .mv (.v 6)⟩,
    ⟨some 23, some (20, false), none, .objs [], .iaS 4 (.v 21) (.v 22)⟩] ++ mkL [0, 1, 5, 6, 20, 23] ([
    ⟨some 24, some (20, false), none, .objs [], .fa 1 (.v 23)⟩,
    ⟨some 25, some (20, false), none, .objs [], .ld false 1 (.v 24)⟩,
    ⟨some 26, some (20, false), none, .objs [], .mv (.v 1)⟩,
    ⟨some 27, some (20, false), none, .objs [], .bin .neq false (.v 25) (.v 26)⟩,
    ⟨some 28, none, none, .objs [], .pk (.v 20) (.c (.sc (.bool true))) (.v 27)⟩]))) <|
    .cond (.v 28) (.exit 1) (.nop)) <|
    .seq (.ops ([
    ⟨some 29, none, none, .objs [], .mv (.v 0)⟩,
    ⟨some 30, none, none, .objs [], .mv (.v 6)⟩,
    ⟨some 31, none, none, .objs [], .mv (.v 1)⟩,
    ⟨some 32, none, none, .objs [], .mv (.v 0)⟩,
    ⟨some 33, none, none, .objs [], .mv (.v 6)⟩,
    ⟨some 34, none, none, .objs [], .iaS 4 (.v 32) (.v 33)⟩,
    ⟨some 35, none, none, .objs [], .fa 2 (.v 34)⟩,
    ⟨some 36, none, none, .objs [], .ld false 1 (.v 35)⟩,
    ⟨some 37, none, none, .objs [], .call (.c (.fn (.func 34) [] [])) [(.v 29), (.v 30), (.c (.sc (.int .i64 1))), (.v 31), (.v 36)]⟩] ++ mkL [0, 1, 5, 6, 37] ([
    ⟨some 7, none, none, .objs [], .mv (.v 37)⟩]))) <|
    .seq (.ops ([
    ⟨some 38, none, none, .objs [], .mv (.v 7)⟩,
    ⟨some 39, none, none, .objs [], .bin .geq false (.v 38) (.c (.sc (.int .i64 0)))⟩])) <|
    .cond (.v 39) (.opsD [] ([
      ⟨some 40, none, none, .objs [], .mv (.v 5)⟩,
      ⟨some 41, none, none, .objs [], .mv (.v 0)⟩,
      ⟨some 42, none, none, .objs [], .mv (.v 6)⟩,
      ⟨some 43, none, none, .objs [], .iaS 4 (.v 41) (.v 42)⟩,
      ⟨some 44, none, none, .objs [], .fa 3 (.v 43)⟩,
      ⟨some 45, none, none, .objs [(.v 44)], .ld false 1 (.v 44)⟩,
      ⟨some 46, none, none, .objs [], .mv (.v 0)⟩,
      ⟨some 47, none, none, .objs [], .mv (.v 7)⟩,
      ⟨some 48, none, none, .objs [], .iaS 4 (.v 46) (.v 47)⟩,
      ⟨some 49, none, none, .objs [], .fa 3 (.v 48)⟩,
      ⟨some 50, none, none, .objs [(.v 49)], .ld false 1 (.v 49)⟩] ++ mkL [0, 1, 6, 40, 45, 50] ([
      ⟨some 51, none, none, .objs [], .bin .sub false (.v 45) (.v 50)⟩,
      ⟨some 52, none, none, .objs [], .bs false 1 (.sc (.int .i64 0)) 1 [(0, (.v 51))]⟩,
      ⟨some 53, none, none, .objs [(.v 40), (.v 52)], .app 1 8 (.v 40) (.v 52)⟩,
      ⟨some 5, none, none, .objs [], .gmv 1 (.v 53)⟩]))) (.nop))) <|
  .ops ([
  ⟨some 12, none, none, .objs [], .mv (.v 6)⟩,
  ⟨some 13, none, none, .objs [], .bin .add false (.v 12) (.c (.sc (.int .i64 1)))⟩,
  ⟨some 6, none, none, .objs [], .mv (.v 13)⟩])
noncomputable def il17l0 : C := il17l0b
theorem il17l0_go {P : Program} {pol : Pol} {K : Oracle} {I : Inl} {n : Nat} {f : FuncId} {R : Xit → FEnv → Heap → Prop} {e : FEnv} {h : Heap} : wc P pol K I n f il17l0 R e h = wc P pol K I n f il17l0b R e h := (fun x => x) rfl

noncomputable def il17c : C :=
  .seq (.ops ([
  ⟨some 4, none, none, .objs [], .mv (.c (.sc (.slice none 0 0)))⟩])) <|
  .seq (.ops ([
  ⟨some 5, none, none, .objs [], .gmv 1 (.c (.sc (.slice none 0 0)))⟩])) <|
  .seq (.seq (.ops ([
  ⟨some 6, none, none, .objs [], .mv (.c (.sc (.int .i64 0)))⟩])) <|
  .block 0 (.loop (some [0, 1, 5, 6]) il17l0)) <|
  .seq (.ops ([
  ⟨some 54, none, none, .objs [], .mv (.v 5)⟩,
  ⟨some 4, none, none, .objs [], .mv (.v 54)⟩])) <|
  .ret

theorem il17_eq : cFn Tryd.prog pol 17 = some ⟨55, il17c, [(4, none)]⟩ := by kernel_rfl

noncomputable def il18l0b : C :=
  .seq (.ops ([
  ⟨some 14, none, none, .objs [], .bin .lss false (.v 13) (.v 12)⟩])) <|
  .seq (.cond (.v 14) (.nop) (.exit 0)) <|
  .seq (.block 1 (.seq (.ops ([
    ⟨some 15, none, none, .objs [], .mv (.v 13)⟩,
    ⟨some 5, none, none, .objs [], .mv (.v 15)⟩])) <|
    .seq (.opsD [] ([
    ⟨some 16, none, none, .objs [], .mv (.v 0)⟩,
    ⟨some 17, none, none, .objs [], .mv (.v 5)⟩,
    ⟨some 18, none, none, .objs [], .iaS 1 (.v 16) (.v 17)⟩,
    ⟨some 19, none, none, .objs [(.v 18)], .ld false 1 (.v 18)⟩,
    ⟨some 20, none, none, .objs [], .mv (.v 1)⟩,
    ⟨some 21, none, none, .objs [], .mv (.v 5)⟩,
    ⟨some 22, none, none, .objs [], .iaS 1 (.v 20) (.v 21)⟩,
    ⟨some 23, none, none, .objs [(.v 22)], .ld false 1 (.v 22)⟩,
    ⟨some 24, none, none, .objs [], .bin .neq false (.v 19) (.v 23)⟩])) <|
    .cond (.v 24) (.seq (.ops ([
      ⟨some 4, none, none, .objs [], .mv (.c (.sc (.bool false)))⟩])) <|
      .ret) (.nop))) <|
  .ops ([
  ⟨some 25, none, none, .objs [], .bin .add false (.v 13) (.c (.sc (.int .i64 1)))⟩] ++ mkL [0, 1, 12, 25] ([
  ⟨some 13, none, none, .objs [], .mv (.v 25)⟩]))
noncomputable def il18l0 : C := il18l0b
theorem il18l0_go {P : Program} {pol : Pol} {K : Oracle} {I : Inl} {n : Nat} {f : FuncId} {R : Xit → FEnv → Heap → Prop} {e : FEnv} {h : Heap} : wc P pol K I n f il18l0 R e h = wc P pol K I n f il18l0b R e h := (fun x => x) rfl

noncomputable def il18c : C :=
  .seq (.ops ([
  ⟨some 4, none, none, .objs [], .mv (.c (.sc (.bool false)))⟩])) <|
  .seq (.seq (.ops ([
  ⟨some 6, none, none, .objs [], .mv (.v 0)⟩,
  ⟨some 7, none, none, .objs [], .lenS (.v 6)⟩,
  ⟨some 8, none, none, .objs [], .mv (.v 1)⟩,
  ⟨some 9, none, none, .objs [], .lenS (.v 8)⟩,
  ⟨some 10, none, none, .objs [], .bin .neq false (.v 7) (.v 9)⟩])) <|
  .cond (.v 10) (.seq (.ops ([
    ⟨some 4, none, none, .objs [], .mv (.c (.sc (.bool false)))⟩])) <|
    .ret) (.nop)) <|
  .seq (.seq (.ops ([
  ⟨some 11, none, none, .objs [], .mv (.v 0)⟩,
  ⟨some 12, none, none, .objs [], .lenS (.v 11)⟩,
  ⟨some 13, none, none, .objs [], .mv (.c (.sc (.int .i64 0)))⟩])) <|
  .block 0 (.loop (some [0, 1, 12, 13]) il18l0)) <|
  .seq (.ops ([
  ⟨some 4, none, none, .objs [], .mv (.c (.sc (.bool true)))⟩])) <|
  .ret

theorem il18_eq : cFn Tryd.prog pol 18 = some ⟨26, il18c, [(4, none)]⟩ := by kernel_rfl

noncomputable def il24c : C :=
  .seq (.ops ([
  ⟨some 6, none, none, .objs [], .nw 4 (.agg [(.sc (.int .i64 0)), (.sc (.int .i64 0)), (.sc (.int .i64 0)), (.sc (.int .i64 0))])⟩])) <|
  .seq (.ops ([
  ⟨some 7, none, none, .objs [], .mv (.v 0)⟩,
  ⟨some 8, none, none, .objs [], .mv (.v 1)⟩,
  ⟨some 9, none, none, .objs [], .mv (.v 2)⟩,
  ⟨some 10, none, none, .objs [], .bd [(.sc (.int .i64 0)), (.sc (.int .i64 0)), (.sc (.int .i64 0)), (.sc (.int .i64 0))] [(0, 1, (.c (.sc (.int .i64 1)))), (1, 1, (.v 7)), (2, 1, (.v 8)), (3, 1, (.v 9))]⟩,
  ⟨none, none, none, .objs [], .st 4 (.v 6) (.v 10)⟩])) <|
  .ret

theorem il24_eq : cFn Tryd.prog pol 24 = some ⟨11, il24c, [(6, some (true, 4))]⟩ := by kernel_rfl

noncomputable def il25c : C :=
  .seq (.ops ([
  ⟨some 6, none, none, .objs [], .nw 4 (.agg [(.sc (.int .i64 0)), (.sc (.int .i64 0)), (.sc (.int .i64 0)), (.sc (.int .i64 0))])⟩])) <|
  .seq (.ops ([
  ⟨some 7, none, none, .objs [], .mv (.v 0)⟩,
  ⟨some 8, none, none, .objs [], .mv (.v 1)⟩,
  ⟨some 9, none, none, .objs [], .mv (.v 2)⟩,
  ⟨some 10, none, none, .objs [], .bd [(.sc (.int .i64 0)), (.sc (.int .i64 0)), (.sc (.int .i64 0)), (.sc (.int .i64 0))] [(0, 1, (.c (.sc (.int .i64 2)))), (1, 1, (.v 7)), (2, 1, (.v 8)), (3, 1, (.v 9))]⟩,
  ⟨none, none, none, .objs [], .st 4 (.v 6) (.v 10)⟩])) <|
  .ret

theorem il25_eq : cFn Tryd.prog pol 25 = some ⟨11, il25c, [(6, some (true, 4))]⟩ := by kernel_rfl

noncomputable def il26l0b : C :=
  .seq (.ops ([
  ⟨some 12, none, none, .objs [], .bin .lss false (.v 11) (.v 10)⟩])) <|
  .seq (.cond (.v 12) (.nop) (.exit 0)) <|
  .seq (.block 1 (.seq (.ops ([
    ⟨some 13, none, none, .objs [], .iaS 4 (.v 9) (.v 11)⟩,
    ⟨some 14, none, none, .objs [], .ld true 4 (.v 13)⟩,
    ⟨some 5, none, none, .objs [], .nw 4 (.agg [(.sc (.int .i64 0)), (.sc (.int .i64 0)), (.sc (.int .i64 0)), (.sc (.bool false))])⟩,
    ⟨none, none, none, .objs [], .st 4 (.v 5) (.v 14)⟩])) <|
    .seq (.seq (.ops ([
    ⟨some 15, none, none, .objs [], .fa 0 (.v 5)⟩,
    ⟨some 16, none, none, .objs [], .ld false 1 (.v 15)⟩,
    ⟨some 17, none, none, .objs [], .mv (.v 3)⟩,
    ⟨some 18, none, none, .objs [], .bin .leq false (.v 16) (.v 17)⟩,
    ⟨some 19, none, none, .objs [], .mv (.v 18)⟩,
    ⟨some 20, some (19, false), none, .objs [], .fa 0 (.v 5)⟩,
    ⟨some 21, some (19, false), none, .objs [], .ld false 1 (.v 20)⟩,
    ⟨some 22, some (19, false), none, .objs [], .bin .gtr false (.v 21) (.c (.sc (.int .i64 4095)))⟩,
    ⟨some 23, none, none, .objs [], .pk (.v 19) (.c (.sc (.bool true))) (.v 22)⟩] ++ mkL [5, 9, 10, 11, 23] ([
    ⟨some 24, none, none, .objs [], .mv (.v 23)⟩,
    ⟨some 25, some (24, false), none, .objs [], .fa 1 (.v 5)⟩,
    ⟨some 26, some (24, false), none, .objs [], .ld false 1 (.v 25)⟩,
    ⟨some 27, some (24, false), none, .objs [], .bin .lss false (.v 26) (.c (.sc (.int .i64 0)))⟩,
    ⟨some 28, none, none, .objs [], .pk (.v 24) (.c (.sc (.bool true))) (.v 27)⟩,
    ⟨some 29, none, none, .objs [], .mv (.v 28)⟩,
    ⟨some 30, some (29, false), none, .objs [], .fa 1 (.v 5)⟩,
    ⟨some 31, some (29, false), none, .objs [], .ld false 1 (.v 30)⟩,
    ⟨some 32, some (29, false), none, .objs [], .fa 2 (.v 5)⟩,
    ⟨some 33, some (29, false), none, .objs [], .ld false 1 (.v 32)⟩,
    ⟨some 34, some (29, false), none, .objs [], .bin .gtr false (.v 31) (.v 33)⟩,
    ⟨some 35, none, none, .objs [], .pk (.v 29) (.c (.sc (.bool true))) (.v 34)⟩,
    ⟨some 36, none, none, .objs [], .mv (.v 35)⟩,
    ⟨some 37, some (36, false), none, .objs [], .fa 2 (.v 5)⟩] ++ mkL [5, 9, 10, 11, 36, 37] ([
    ⟨some 38, some (36, false), none, .objs [], .ld false 1 (.v 37)⟩,
    ⟨some 39, some (36, false), none, .objs [], .bin .gtr false (.v 38) (.c (.sc (.int .i64 1099511627776)))⟩,
    ⟨some 40, none, none, .objs [], .pk (.v 36) (.c (.sc (.bool true))) (.v 39)⟩])))) <|
    .cond (.v 40) (.seq (.ops ([
      ⟨some 2, none, none, .objs [], .mv (.c (.sc (.int .i64 541)))⟩])) <|
      .ret) (.nop)) <|
    .ops ([
    ⟨some 41, none, none, .objs [], .fa 0 (.v 5)⟩,
    ⟨some 42, none, none, .objs [], .ld false 1 (.v 41)⟩,
    ⟨some 3, none, none, .objs [], .mv (.v 42)⟩]))) <|
  .ops ([
  ⟨some 43, none, none, .objs [], .bin .add false (.v 11) (.c (.sc (.int .i64 1)))⟩,
  ⟨some 11, none, none, .objs [], .mv (.v 43)⟩])
noncomputable def il26l0 : C := il26l0b
theorem il26l0_go {P : Program} {pol : Pol} {K : Oracle} {I : Inl} {n : Nat} {f : FuncId} {R : Xit → FEnv → Heap → Prop} {e : FEnv} {h : Heap} : wc P pol K I n f il26l0 R e h = wc P pol K I n f il26l0b R e h := (fun x => x) rfl

noncomputable def il26c : C :=
  .seq (.ops ([
  ⟨some 2, none, none, .objs [], .mv (.c (.sc (.int .i64 0)))⟩])) <|
  .seq (.seq (.ops ([
  ⟨some 6, none, none, .objs [], .mv (.v 0)⟩,
  ⟨some 7, none, none, .objs [], .lenS (.v 6)⟩,
  ⟨some 8, none, none, .objs [], .bin .gtr false (.v 7) (.c (.sc (.int .i64 12)))⟩])) <|
  .cond (.v 8) (.seq (.ops ([
    ⟨some 2, none, none, .objs [], .mv (.c (.sc (.int .i64 541)))⟩])) <|
    .ret) (.nop)) <|
  .seq (.ops ([
  ⟨some 3, none, none, .objs [], .mv (.c (.sc (.int .i64 0)))⟩])) <|
  .seq (.seq (.ops ([
  ⟨some 9, none, none, .objs [], .mv (.v 0)⟩,
  ⟨some 10, none, none, .objs [], .lenS (.v 9)⟩,
  ⟨some 11, none, none, .objs [], .mv (.c (.sc (.int .i64 0)))⟩])) <|
  .block 0 (.loop (some [3, 9, 10, 11]) il26l0)) <|
  .seq (.ops ([
  ⟨some 2, none, none, .objs [], .mv (.c (.sc (.int .i64 0)))⟩])) <|
  .ret

theorem il26_eq : cFn Tryd.prog pol 26 = some ⟨44, il26c, [(2, none)]⟩ := by kernel_rfl

noncomputable def il29l0b : C :=
  .seq (.ops ([
  ⟨some 12, none, none, .objs [], .bin .lss false (.v 11) (.v 10)⟩])) <|
  .seq (.cond (.v 12) (.nop) (.exit 0)) <|
  .seq (.block 1 (.seq (.ops ([
    ⟨some 13, none, none, .objs [], .iaS 4 (.v 9) (.v 11)⟩,
    ⟨some 14, none, none, .objs [], .ld true 4 (.v 13)⟩,
    ⟨some 5, none, none, .objs [], .nw 4 (.agg [(.sc (.int .i64 0)), (.sc (.int .i64 0)), (.sc (.int .i64 0)), (.sc (.int .i64 0))])⟩,
    ⟨none, none, none, .objs [], .st 4 (.v 5) (.v 14)⟩])) <|
    .seq (.seq (.ops ([
    ⟨some 15, none, none, .objs [], .fa 0 (.v 5)⟩,
    ⟨some 16, none, none, .objs [], .ld false 1 (.v 15)⟩,
    ⟨some 17, none, none, .objs [], .bin .neq false (.v 16) (.c (.sc (.int .i64 1)))⟩,
    ⟨some 18, none, none, .objs [], .mv (.v 17)⟩,
    ⟨some 19, some (18, true), none, .objs [], .fa 0 (.v 5)⟩,
    ⟨some 20, some (18, true), none, .objs [], .ld false 1 (.v 19)⟩,
    ⟨some 21, some (18, true), none, .objs [], .bin .neq false (.v 20) (.c (.sc (.int .i64 2)))⟩,
    ⟨some 22, none, none, .objs [], .pk (.v 18) (.v 21) (.c (.sc (.bool false)))⟩,
    ⟨some 23, none, none, .objs [], .mv (.v 22)⟩] ++ mkL [3, 5, 9, 10, 11, 23] ([
    ⟨some 24, some (23, false), none, .objs [], .fa 1 (.v 5)⟩,
    ⟨some 25, some (23, false), none, .objs [], .ld false 1 (.v 24)⟩,
    ⟨some 26, some (23, false), none, .objs [], .bin .lss false (.v 25) (.c (.sc (.int .i64 0)))⟩,
    ⟨some 27, none, none, .objs [], .pk (.v 23) (.c (.sc (.bool true))) (.v 26)⟩,
    ⟨some 28, none, none, .objs [], .mv (.v 27)⟩,
    ⟨some 29, some (28, false), none, .objs [], .fa 1 (.v 5)⟩,
    ⟨some 30, some (28, false), none, .objs [], .ld false 1 (.v 29)⟩,
    ⟨some 31, some (28, false), none, .objs [], .bin .gtr false (.v 30) (.c (.sc (.int .i64 4095)))⟩,
    ⟨some 32, none, none, .objs [], .pk (.v 28) (.c (.sc (.bool true))) (.v 31)⟩,
    ⟨some 33, none, none, .objs [], .mv (.v 32)⟩,
    ⟨some 34, some (33, false), none, .objs [], .fa 2 (.v 5)⟩,
    ⟨some 35, some (33, false), none, .objs [], .ld false 1 (.v 34)⟩,
    ⟨some 36, some (33, false), none, .objs [], .bin .lss false (.v 35) (.c (.sc (.int .i64 0)))⟩,
    ⟨some 37, none, none, .objs [], .pk (.v 33) (.c (.sc (.bool true))) (.v 36)⟩] ++ mkL [3, 5, 9, 10, 11, 37] ([
    ⟨some 38, none, none, .objs [], .mv (.v 37)⟩,
    ⟨some 39, some (38, false), none, .objs [], .fa 2 (.v 5)⟩,
    ⟨some 40, some (38, false), none, .objs [], .ld false 1 (.v 39)⟩,
    ⟨some 41, some (38, false), none, .objs [], .bin .geq false (.v 40) (.c (.sc (.int .i64 65536)))⟩,
    ⟨some 42, none, none, .objs [], .pk (.v 38) (.c (.sc (.bool true))) (.v 41)⟩,
    ⟨some 43, none, none, .objs [], .mv (.v 42)⟩,
    ⟨some 44, some (43, false), none, .objs [], .fa 3 (.v 5)⟩,
    ⟨some 45, some (43, false), none, .objs [], .ld false 1 (.v 44)⟩,
    ⟨some 46, some (43, false), none, .objs [], .mv (.v 3)⟩,
    ⟨some 47, some (43, false), none, .objs [], .bin .lss false (.v 45) (.v 46)⟩,
    ⟨some 48, none, none, .objs [], .pk (.v 43) (.c (.sc (.bool true))) (.v 47)⟩,
    ⟨some 49, none, none, .objs [], .mv (.v 48)⟩,
    ⟨some 50, some (49, false), none, .objs [], .fa 3 (.v 5)⟩,
    ⟨some 51, some (49, false), none, .objs [], .ld false 1 (.v 50)⟩] ++ mkL [5, 9, 10, 11, 49, 51] ([
    ⟨some 52, some (49, false), none, .objs [], .bin .gtr false (.v 51) (.c (.sc (.int .i64 1099511627776)))⟩,
    ⟨some 53, none, none, .objs [], .pk (.v 49) (.c (.sc (.bool true))) (.v 52)⟩]))))) <|
    .cond (.v 53) (.seq (.ops ([
      ⟨some 2, none, none, .objs [], .mv (.c (.sc (.int .i64 540)))⟩])) <|
      .ret) (.nop)) <|
    .ops ([
    ⟨some 54, none, none, .objs [], .fa 3 (.v 5)⟩,
    ⟨some 55, none, none, .objs [], .ld false 1 (.v 54)⟩,
    ⟨some 3, none, none, .objs [], .mv (.v 55)⟩]))) <|
  .ops ([
  ⟨some 56, none, none, .objs [], .bin .add false (.v 11) (.c (.sc (.int .i64 1)))⟩,
  ⟨some 11, none, none, .objs [], .mv (.v 56)⟩])
noncomputable def il29l0 : C := il29l0b
theorem il29l0_go {P : Program} {pol : Pol} {K : Oracle} {I : Inl} {n : Nat} {f : FuncId} {R : Xit → FEnv → Heap → Prop} {e : FEnv} {h : Heap} : wc P pol K I n f il29l0 R e h = wc P pol K I n f il29l0b R e h := (fun x => x) rfl

noncomputable def il29c : C :=
  .seq (.ops ([
  ⟨some 2, none, none, .objs [], .mv (.c (.sc (.int .i64 0)))⟩])) <|
  .seq (.seq (.ops ([
  ⟨some 6, none, none, .objs [], .mv (.v 0)⟩,
  ⟨some 7, none, none, .objs [], .lenS (.v 6)⟩,
  ⟨some 8, none, none, .objs [], .bin .gtr false (.v 7) (.c (.sc (.int .i64 4096)))⟩])) <|
  .cond (.v 8) (.seq (.ops ([
    ⟨some 2, none, none, .objs [], .mv (.c (.sc (.int .i64 540)))⟩])) <|
    .ret) (.nop)) <|
  .seq (.ops ([
  ⟨some 3, none, none, .objs [], .mv (.c (.sc (.int .i64 0)))⟩])) <|
  .seq (.seq (.ops ([
  ⟨some 9, none, none, .objs [], .mv (.v 0)⟩,
  ⟨some 10, none, none, .objs [], .lenS (.v 9)⟩,
  ⟨some 11, none, none, .objs [], .mv (.c (.sc (.int .i64 0)))⟩])) <|
  .block 0 (.loop (some [3, 9, 10, 11]) il29l0)) <|
  .seq (.ops ([
  ⟨some 2, none, none, .objs [], .mv (.c (.sc (.int .i64 0)))⟩])) <|
  .ret

theorem il29_eq : cFn Tryd.prog pol 29 = some ⟨57, il29c, [(2, none)]⟩ := by kernel_rfl

noncomputable def il32l0b : C :=
  .seq (.seq (.ops ([
  ⟨some 69, none, none, .objs [], .mv (.v 11)⟩,
  ⟨some 70, none, none, .objs [], .mv (.v 2)⟩,
  ⟨some 71, none, none, .objs [], .bin .lss false (.v 69) (.v 70)⟩])) <|
  .cond (.v 71) (.nop) (.exit 0)) <|
  .seq (.block 1 (.seq (.opsD [] ([
    ⟨some 74, none, none, .objs [], .fa 3 (.v 8)⟩,
    ⟨some 75, none, none, .objs [(.v 74)], .ld false 1 (.v 74)⟩,
    ⟨some 76, none, none, .objs [], .mv (.v 75)⟩,
    ⟨some 77, some (76, true), none, .objs [], .mv (.v 1)⟩,
    ⟨some 78, some (76, true), none, .objs [], .mv (.v 11)⟩,
    ⟨some 79, some (76, true), none, .objs [], .iaS 4 (.v 77) (.v 78)⟩,
    ⟨some 80, some (76, true), none, .objs [], .fa 0 (.v 79)⟩,
    ⟨some 81, some (76, true), none, .objs [(.v 80)], .ld false 1 (.v 80)⟩,
    ⟨some 82, some (76, true), none, .objs [], .bin .eql false (.v 81) (.c (.sc (.int .i64 2)))⟩,
    ⟨some 83, none, none, .objs [], .pk (.v 76) (.v 82) (.c (.sc (.bool false)))⟩,
    ⟨some 84, none, none, .objs [], .mv (.v 83)⟩] ++ mkL [1, 2, 7, 8, 10, 11, 84] ([
    ⟨some 85, some (84, true), none, .objs [], .mv (.v 1)⟩,
    ⟨some 86, some (84, true), none, .objs [], .mv (.v 11)⟩,
    ⟨some 87, some (84, true), none, .objs [], .iaS 4 (.v 85) (.v 86)⟩,
    ⟨some 88, some (84, true), none, .objs [], .fa 1 (.v 87)⟩,
    ⟨some 89, some (84, true), none, .objs [(.v 88)], .ld false 1 (.v 88)⟩,
    ⟨some 90, some (84, true), none, .objs [], .fa 1 (.v 7)⟩,
    ⟨some 91, some (84, true), none, .objs [(.v 90)], .ld false 1 (.v 90)⟩,
    ⟨some 92, some (84, true), none, .objs [], .bin .eql false (.v 89) (.v 91)⟩,
    ⟨some 93, none, none, .objs [], .pk (.v 84) (.v 92) (.c (.sc (.bool false)))⟩,
    ⟨some 94, none, none, .objs [], .mv (.v 93)⟩,
    ⟨some 95, some (94, true), none, .objs [], .mv (.v 1)⟩,
    ⟨some 96, some (94, true), none, .objs [], .mv (.v 2)⟩,
    ⟨some 97, some (94, true), none, .objs [], .fa 1 (.v 7)⟩,
    ⟨some 98, some (94, true), none, .objs [(.v 97)], .ld false 1 (.v 97)⟩] ++ mkL [1, 2, 7, 8, 10, 11, 94, 95, 96, 98] ([
    ⟨some 99, some (94, true), none, .objs [], .mv (.v 1)⟩,
    ⟨some 100, some (94, true), none, .objs [], .mv (.v 11)⟩,
    ⟨some 101, some (94, true), none, .objs [], .iaS 4 (.v 99) (.v 100)⟩,
    ⟨some 102, some (94, true), none, .objs [], .fa 2 (.v 101)⟩,
    ⟨some 103, some (94, true), none, .objs [(.v 102)], .ld false 1 (.v 102)⟩,
    ⟨some 104, some (94, true), none, .cal (.c (.fn (.func 34) [] [])) [(.v 95), (.v 96), (.c (.sc (.int .i64 1))), (.v 98), (.v 103)], .call (.c (.fn (.func 34) [] [])) [(.v 95), (.v 96), (.c (.sc (.int .i64 1))), (.v 98), (.v 103)]⟩,
    ⟨some 105, some (94, true), none, .objs [], .mv (.v 10)⟩,
    ⟨some 106, some (94, true), none, .objs [], .bin .gtr false (.v 104) (.v 105)⟩,
    ⟨some 107, none, none, .objs [], .pk (.v 94) (.v 106) (.c (.sc (.bool false)))⟩])))) <|
    .cond (.v 107) (.seq (.ops ([
      ⟨some 6, none, none, .objs [], .mv (.c (.sc (.int .i64 7)))⟩])) <|
      .ret) (.nop))) <|
  .ops ([
  ⟨some 72, none, none, .objs [], .mv (.v 11)⟩,
  ⟨some 73, none, none, .objs [], .bin .add false (.v 72) (.c (.sc (.int .i64 1)))⟩,
  ⟨some 11, none, none, .objs [], .mv (.v 73)⟩])
noncomputable def il32l0 : C := il32l0b
theorem il32l0_go {P : Program} {pol : Pol} {K : Oracle} {I : Inl} {n : Nat} {f : FuncId} {R : Xit → FEnv → Heap → Prop} {e : FEnv} {h : Heap} : wc P pol K I n f il32l0 R e h = wc P pol K I n f il32l0b R e h := (fun x => x) rfl

noncomputable def il32c : C :=
  .seq (.ops ([
  ⟨some 6, none, none, .objs [], .mv (.c (.sc (.int .i64 0)))⟩])) <|
  .seq (.ops ([
  ⟨some 12, none, none, .objs [], .mv (.v 1)⟩,
  ⟨some 13, none, none, .objs [], .mv (.v 2)⟩,
  ⟨some 14, none, none, .objs [], .iaS 4 (.v 12) (.v 13)⟩,
  ⟨some 15, none, none, .objs [], .ld true 4 (.v 14)⟩,
  ⟨some 7, none, none, .objs [], .nw 4 (.agg [(.sc (.int .i64 0)), (.sc (.int .i64 0)), (.sc (.int .i64 0)), (.sc (.int .i64 0))])⟩,
  ⟨none, none, none, .objs [], .st 4 (.v 7) (.v 15)⟩])) <|
  .seq (.ops ([
  ⟨some 17, none, none, .objs [], .mv (.v 0)⟩,
  ⟨some 18, none, none, .objs [], .fa 1 (.v 7)⟩,
  ⟨some 19, none, none, .objs [], .ld false 1 (.v 18)⟩,
  ⟨some 20, none, none, .objs [], .call (.c (.fn (.func 33) [] [])) [(.v 17), (.v 19)]⟩,
  ⟨some 16, none, none, .objs [], .mv (.v 20)⟩,
  ⟨some 21, none, none, .objs [], .ex (.v 16) 0⟩,
  ⟨some 22, none, none, .objs [], .ex (.v 16) 1⟩] ++ mkL [1, 2, 7, 21, 22] ([
  ⟨some 8, none, none, .objs [], .nw 4 (.agg [(.sc (.int .i64 0)), (.sc (.int .i64 0)), (.sc (.int .i64 0)), (.sc (.bool false))])⟩,
  ⟨none, none, none, .objs [], .st 4 (.v 8) (.v 21)⟩,
  ⟨some 9, none, none, .objs [], .mv (.v 22)⟩]))) <|
  .seq (.seq (.ops ([
  ⟨some 23, none, none, .objs [], .mv (.v 9)⟩,
  ⟨some 24, none, none, .objs [], .nt (.v 23)⟩])) <|
  .cond (.v 24) (.seq (.ops ([
    ⟨some 6, none, none, .objs [], .mv (.c (.sc (.int .i64 1)))⟩])) <|
    .ret) (.nop)) <|
  .seq (.ops ([
  ⟨some 25, none, none, .objs [], .mv (.v 1)⟩,
  ⟨some 26, none, none, .objs [], .mv (.v 2)⟩,
  ⟨some 27, none, none, .objs [], .fa 1 (.v 7)⟩,
  ⟨some 28, none, none, .objs [], .ld false 1 (.v 27)⟩,
  ⟨some 29, none, none, .objs [], .fa 2 (.v 7)⟩,
  ⟨some 30, none, none, .objs [], .ld false 1 (.v 29)⟩,
  ⟨some 31, none, none, .objs [], .call (.c (.fn (.func 34) [] [])) [(.v 25), (.v 26), (.c (.sc (.int .i64 1))), (.v 28), (.v 30)]⟩,
  ⟨some 10, none, none, .objs [], .mv (.v 31)⟩])) <| mkC [1, 2, 7, 8, 10] <|
  .seq (.seq (.ops ([
  ⟨some 32, none, none, .objs [], .fa 0 (.v 7)⟩,
  ⟨some 33, none, none, .objs [], .ld false 1 (.v 32)⟩,
  ⟨some 34, none, none, .objs [], .bin .eql false (.v 33) (.c (.sc (.int .i64 1)))⟩])) <|
  .cond (.v 34) (.seq (.seq (.ops ([
    ⟨some 35, none, none, .objs [], .mv (.v 10)⟩,
    ⟨some 36, none, none, .objs [], .bin .geq false (.v 35) (.c (.sc (.int .i64 0)))⟩])) <|
    .cond (.v 36) (.seq (.ops ([
      ⟨some 6, none, none, .objs [], .mv (.c (.sc (.int .i64 2)))⟩])) <|
      .ret) (.nop)) <|
    .seq (.ops ([
    ⟨some 6, none, none, .objs [], .mv (.c (.sc (.int .i64 0)))⟩])) <|
    .ret) (.nop)) <|
  .seq (.seq (.ops ([
  ⟨some 37, none, none, .objs [], .mv (.v 10)⟩,
  ⟨some 38, none, none, .objs [], .bin .lss false (.v 37) (.c (.sc (.int .i64 0)))⟩])) <|
  .cond (.v 38) (.seq (.ops ([
    ⟨some 6, none, none, .objs [], .mv (.c (.sc (.int .i64 3)))⟩])) <|
    .ret) (.nop)) <|
  .seq (.seq (.ops ([
  ⟨some 39, none, none, .objs [], .mv (.v 1)⟩,
  ⟨some 40, none, none, .objs [], .mv (.v 2)⟩,
  ⟨some 41, none, none, .objs [], .fa 1 (.v 7)⟩,
  ⟨some 42, none, none, .objs [], .ld false 1 (.v 41)⟩] ++ mkL [1, 2, 7, 8, 10, 39, 40, 42] ([
  ⟨some 43, none, none, .objs [], .fa 2 (.v 7)⟩,
  ⟨some 44, none, none, .objs [], .ld false 1 (.v 43)⟩,
  ⟨some 45, none, none, .objs [], .call (.c (.fn (.func 34) [] [])) [(.v 39), (.v 40), (.c (.sc (.int .i64 2))), (.v 42), (.v 44)]⟩,
  ⟨some 46, none, none, .objs [], .bin .geq false (.v 45) (.c (.sc (.int .i64 0)))⟩]))) <|
  .cond (.v 46) (.seq (.ops ([
    ⟨some 6, none, none, .objs [], .mv (.c (.sc (.int .i64 4)))⟩])) <|
    .ret) (.nop)) <|
  .seq (.seq (.opsD [] ([
  ⟨some 47, none, none, .objs [], .fa 3 (.v 7)⟩,
  ⟨some 48, none, none, .objs [(.v 47)], .ld false 1 (.v 47)⟩,
  ⟨some 49, none, none, .objs [], .mv (.v 1)⟩,
  ⟨some 50, none, none, .objs [], .mv (.v 10)⟩,
  ⟨some 51, none, none, .objs [], .iaS 4 (.v 49) (.v 50)⟩,
  ⟨some 52, none, none, .objs [], .fa 3 (.v 51)⟩,
  ⟨some 53, none, none, .objs [(.v 52)], .ld false 1 (.v 52)⟩,
  ⟨some 54, none, none, .objs [], .bin .sub false (.v 48) (.v 53)⟩,
  ⟨some 55, none, none, .objs [], .fa 1 (.v 8)⟩] ++ mkL [1, 2, 7, 8, 10, 54, 55] ([
  ⟨some 56, none, none, .objs [(.v 55)], .ld false 1 (.v 55)⟩,
  ⟨some 57, none, none, .objs [], .bin .lss false (.v 54) (.v 56)⟩]))) <|
  .cond (.v 57) (.seq (.ops ([
    ⟨some 6, none, none, .objs [], .mv (.c (.sc (.int .i64 5)))⟩])) <|
    .ret) (.nop)) <|
  .seq (.seq (.opsD [] ([
  ⟨some 58, none, none, .objs [], .fa 3 (.v 7)⟩,
  ⟨some 59, none, none, .objs [(.v 58)], .ld false 1 (.v 58)⟩,
  ⟨some 60, none, none, .objs [], .mv (.v 1)⟩,
  ⟨some 61, none, none, .objs [], .mv (.v 10)⟩,
  ⟨some 62, none, none, .objs [], .iaS 4 (.v 60) (.v 61)⟩,
  ⟨some 63, none, none, .objs [], .fa 3 (.v 62)⟩,
  ⟨some 64, none, none, .objs [(.v 63)], .ld false 1 (.v 63)⟩,
  ⟨some 65, none, none, .objs [], .bin .sub false (.v 59) (.v 64)⟩,
  ⟨some 66, none, none, .objs [], .fa 2 (.v 8)⟩,
  ⟨some 67, none, none, .objs [(.v 66)], .ld false 1 (.v 66)⟩,
  ⟨some 68, none, none, .objs [], .bin .gtr false (.v 65) (.v 67)⟩])) <| mkC [1, 2, 7, 8, 10, 68] <|
  .cond (.v 68) (.seq (.ops ([
    ⟨some 6, none, none, .objs [], .mv (.c (.sc (.int .i64 6)))⟩])) <|
    .ret) (.nop)) <|
  .seq (.seq (.ops ([
  ⟨some 11, none, none, .objs [], .mv (.c (.sc (.int .i64 0)))⟩])) <|
  .block 0 (.loop (some [1, 2, 7, 8, 10, 11]) il32l0)) <|
  .seq (.ops ([
  ⟨some 6, none, none, .objs [], .mv (.c (.sc (.int .i64 0)))⟩])) <|
  .ret

theorem il32_eq : cFn Tryd.prog pol 32 = some ⟨108, il32c, [(6, none)]⟩ := by kernel_rfl

noncomputable def il33l0b : C :=
  .seq (.seq (.ops ([
  ⟨some 7, none, none, .objs [], .mv (.v 6)⟩,
  ⟨some 8, none, none, .objs [], .mv (.v 0)⟩,
  ⟨some 9, none, none, .objs [], .lenS (.v 8)⟩,
  ⟨some 10, none, none, .objs [], .bin .lss false (.v 7) (.v 9)⟩])) <|
  .cond (.v 10) (.nop) (.exit 0)) <|
  .seq (.block 1 (.seq (.ops ([
    ⟨some 13, none, none, .objs [], .mv (.v 0)⟩,
    ⟨some 14, none, none, .objs [], .mv (.v 6)⟩,
    ⟨some 15, none, none, .objs [], .iaS 4 (.v 13) (.v 14)⟩,
    ⟨some 16, none, none, .objs [], .fa 0 (.v 15)⟩,
    ⟨some 17, none, none, .objs [], .ld false 1 (.v 16)⟩,
    ⟨some 18, none, none, .objs [], .mv (.v 1)⟩,
    ⟨some 19, none, none, .objs [], .bin .eql false (.v 17) (.v 18)⟩])) <|
    .cond (.v 19) (.seq (.ops ([
      ⟨some 20, none, none, .objs [], .mv (.v 0)⟩,
      ⟨some 21, none, none, .objs [], .mv (.v 6)⟩,
      ⟨some 22, none, none, .objs [], .iaS 4 (.v 20) (.v 21)⟩] ++ mkL [4, 22] ([
      ⟨some 23, none, none, .objs [], .ld true 4 (.v 22)⟩,
      ⟨none, none, none, .objs [], .st 4 (.v 4) (.v 23)⟩,
      ⟨some 5, none, none, .objs [], .mv (.c (.sc (.bool true)))⟩]))) <|
      .ret) (.nop))) <|
  .ops ([
  ⟨some 11, none, none, .objs [], .mv (.v 6)⟩,
  ⟨some 12, none, none, .objs [], .bin .add false (.v 11) (.c (.sc (.int .i64 1)))⟩,
  ⟨some 6, none, none, .objs [], .mv (.v 12)⟩])
noncomputable def il33l0 : C := il33l0b
theorem il33l0_go {P : Program} {pol : Pol} {K : Oracle} {I : Inl} {n : Nat} {f : FuncId} {R : Xit → FEnv → Heap → Prop} {e : FEnv} {h : Heap} : wc P pol K I n f il33l0 R e h = wc P pol K I n f il33l0b R e h := (fun x => x) rfl

noncomputable def il33c : C :=
  .seq (.ops ([
  ⟨some 4, none, none, .objs [], .nw 4 (.agg [(.sc (.int .i64 0)), (.sc (.int .i64 0)), (.sc (.int .i64 0)), (.sc (.bool false))])⟩,
  ⟨some 5, none, none, .objs [], .mv (.c (.sc (.bool false)))⟩])) <|
  .seq (.seq (.ops ([
  ⟨some 6, none, none, .objs [], .mv (.c (.sc (.int .i64 0)))⟩])) <|
  .block 0 (.loop (some [0, 1, 4, 6]) il33l0)) <|
  .seq (.ops ([
  ⟨some 24, none, none, .objs [], .bd [(.sc (.int .i64 0)), (.sc (.int .i64 0)), (.sc (.int .i64 0)), (.sc (.bool false))] []⟩,
  ⟨none, none, none, .objs [], .st 4 (.v 4) (.v 24)⟩,
  ⟨some 5, none, none, .objs [], .mv (.c (.sc (.bool false)))⟩])) <|
  .ret

theorem il33_eq : cFn Tryd.prog pol 33 = some ⟨25, il33c, [(4, some (true, 4)), (5, none)]⟩ := by kernel_rfl

noncomputable def il34l0b : C :=
  .seq (.seq (.ops ([
  ⟨some 12, none, none, .objs [], .mv (.v 11)⟩,
  ⟨some 13, none, none, .objs [], .mv (.v 1)⟩,
  ⟨some 14, none, none, .objs [], .bin .lss false (.v 12) (.v 13)⟩])) <|
  .cond (.v 14) (.nop) (.exit 0)) <|
  .seq (.block 1 (.seq (.ops ([
    ⟨some 17, none, none, .objs [], .mv (.v 0)⟩,
    ⟨some 18, none, none, .objs [], .mv (.v 11)⟩,
    ⟨some 19, none, none, .objs [], .iaS 4 (.v 17) (.v 18)⟩,
    ⟨some 20, none, none, .objs [], .fa 0 (.v 19)⟩,
    ⟨some 21, none, none, .objs [], .ld false 1 (.v 20)⟩,
    ⟨some 22, none, none, .objs [], .mv (.v 2)⟩,
    ⟨some 23, none, none, .objs [], .bin .eql false (.v 21) (.v 22)⟩,
    ⟨some 24, none, none, .objs [], .mv (.v 23)⟩,
    ⟨some 25, some (24, true), none, .objs [], .mv (.v 0)⟩,
    ⟨some 26, some (24, true), none, .objs [], .mv (.v 11)⟩,
    ⟨some 27, some (24, true), none, .objs [], .iaS 4 (.v 25) (.v 26)⟩] ++ mkL [0, 1, 2, 3, 4, 11, 24, 27] ([
    ⟨some 28, some (24, true), none, .objs [], .fa 1 (.v 27)⟩,
    ⟨some 29, some (24, true), none, .objs [], .ld false 1 (.v 28)⟩,
    ⟨some 30, some (24, true), none, .objs [], .mv (.v 3)⟩,
    ⟨some 31, some (24, true), none, .objs [], .bin .eql false (.v 29) (.v 30)⟩,
    ⟨some 32, none, none, .objs [], .pk (.v 24) (.v 31) (.c (.sc (.bool false)))⟩,
    ⟨some 33, none, none, .objs [], .mv (.v 32)⟩,
    ⟨some 34, some (33, true), none, .objs [], .mv (.v 0)⟩,
    ⟨some 35, some (33, true), none, .objs [], .mv (.v 11)⟩,
    ⟨some 36, some (33, true), none, .objs [], .iaS 4 (.v 34) (.v 35)⟩,
    ⟨some 37, some (33, true), none, .objs [], .fa 2 (.v 36)⟩,
    ⟨some 38, some (33, true), none, .objs [], .ld false 1 (.v 37)⟩,
    ⟨some 39, some (33, true), none, .objs [], .mv (.v 4)⟩,
    ⟨some 40, some (33, true), none, .objs [], .bin .eql false (.v 38) (.v 39)⟩,
    ⟨some 41, none, none, .objs [], .pk (.v 33) (.v 40) (.c (.sc (.bool false)))⟩]))) <| mkC [0, 1, 2, 3, 4, 11, 41] <|
    .cond (.v 41) (.seq (.ops ([
      ⟨some 42, none, none, .objs [], .mv (.v 11)⟩,
      ⟨some 10, none, none, .objs [], .mv (.v 42)⟩])) <|
      .ret) (.nop))) <|
  .ops ([
  ⟨some 15, none, none, .objs [], .mv (.v 11)⟩,
  ⟨some 16, none, none, .objs [], .bin .add false (.v 15) (.c (.sc (.int .i64 1)))⟩,
  ⟨some 11, none, none, .objs [], .mv (.v 16)⟩])
noncomputable def il34l0 : C := il34l0b
theorem il34l0_go {P : Program} {pol : Pol} {K : Oracle} {I : Inl} {n : Nat} {f : FuncId} {R : Xit → FEnv → Heap → Prop} {e : FEnv} {h : Heap} : wc P pol K I n f il34l0 R e h = wc P pol K I n f il34l0b R e h := (fun x => x) rfl

noncomputable def il34c : C :=
  .seq (.ops ([
  ⟨some 10, none, none, .objs [], .mv (.c (.sc (.int .i64 0)))⟩])) <|
  .seq (.seq (.ops ([
  ⟨some 11, none, none, .objs [], .mv (.c (.sc (.int .i64 0)))⟩])) <|
  .block 0 (.loop (some [0, 1, 2, 3, 4, 11]) il34l0)) <|
  .seq (.ops ([
  ⟨some 10, none, none, .objs [], .mv (.c (.sc (.int .i64 (-1))))⟩])) <|
  .ret

theorem il34_eq : cFn Tryd.prog pol 34 = some ⟨43, il34c, [(10, none)]⟩ := by kernel_rfl

noncomputable def il35c : C :=
  .seq (.ops ([
  ⟨some 1, none, none, .objs [], .bx false (.v 0)⟩,
  ⟨some 2, none, none, .objs [], .nw 2 (.agg [(.sc (.int .i64 0)), (.sc (.int .i64 0))])⟩])) <|
  .seq (.ops ([
  ⟨some 3, none, none, .objs [], .fa 1 (.v 1)⟩,
  ⟨some 4, none, none, .objs [], .ld false 1 (.v 3)⟩,
  ⟨some 5, none, none, .objs [], .fa 2 (.v 1)⟩,
  ⟨some 6, none, none, .objs [], .ld false 1 (.v 5)⟩,
  ⟨some 7, none, none, .objs [], .bd [(.sc (.int .i64 0)), (.sc (.int .i64 0))] [(0, 1, (.v 4)), (1, 1, (.v 6))]⟩,
  ⟨none, none, none, .objs [], .st 2 (.v 2) (.v 7)⟩])) <|
  .ret

theorem il35_eq : cFn Tryd.prog pol 35 = some ⟨8, il35c, [(2, some (true, 2))]⟩ := by kernel_rfl

noncomputable def il40c : C :=
  .seq (.ops ([
  ⟨some 5, none, none, .objs [], .bx false (.v 2)⟩])) <|
  .seq (.opsD [(4, 6), (4, 8), (5, 8), (6, 8), (7, 8)] ([
  ⟨some 7, none, none, .objs [], .mv (.v 0)⟩,
  ⟨some 8, none, none, .objs [], .nc (.v 7)⟩,
  ⟨some 9, none, none, .objs [], .fa 0 (.v 8)⟩,
  ⟨some 10, none, none, .objs [], .fa 1 (.v 9)⟩,
  ⟨some 11, none, none, .objs [(.v 10)], .ld false 1 (.v 10)⟩,
  ⟨some 12, none, none, .objs [(.v 5)], .ld true 4 (.v 5)⟩,
  ⟨some 13, none, none, .cal (.c (.fn (.func 35) [] [])) [(.v 12)], .call (.c (.fn (.func 35) [] [])) [(.v 12)]⟩,
  ⟨some 14, none, none, .objs [(.v 11)], .raw (opOf Tryd.prog 40 1 7)⟩,
  ⟨some 6, none, none, .objs [], .nw 4 (.agg [(.sc (.bool false)), (.sc (.bool false)), (.sc (.int .i64 0)), (.sc (.int .i64 0))])⟩,
  ⟨none, none, none, .objs [(.v 6)], .st 4 (.v 6) (.v 14)⟩])) <|
  .seq (.seq (.ops ([
  ⟨some 15, none, none, .objs [], .fa 0 (.v 5)⟩,
  ⟨some 16, none, none, .objs [], .ld false 1 (.v 15)⟩,
  ⟨some 17, none, none, .objs [], .bin .eql false (.v 16) (.c (.sc (.int .i64 1)))⟩])) <| mkC [0, 1, 5, 6, 17] <|
  .cond (.v 17) (.seq (.opsD [(4, 6), (6, 9)] ([
    ⟨some 18, none, none, .objs [], .mv (.v 0)⟩,
    ⟨some 19, none, none, .objs [], .nc (.v 18)⟩,
    ⟨some 20, none, none, .objs [], .fa 0 (.v 19)⟩,
    ⟨some 21, none, none, .objs [], .fa 1 (.v 20)⟩,
    ⟨some 22, none, none, .objs [(.v 21)], .ld false 1 (.v 21)⟩,
    ⟨some 23, none, none, .objs [(.v 5)], .ld true 4 (.v 5)⟩,
    ⟨some 24, none, none, .cal (.c (.fn (.func 35) [] [])) [(.v 23)], .call (.c (.fn (.func 35) [] [])) [(.v 23)]⟩,
    ⟨some 25, none, none, .objs [], .mv (.v 1)⟩,
    ⟨some 26, none, none, .objs [], .fa 3 (.v 5)⟩,
    ⟨some 27, none, none, .objs [(.v 26)], .ld false 1 (.v 26)⟩,
    ⟨some 28, none, none, .objs [], .bd [(.sc (.bool false)), (.sc (.bool false)), (.sc (.int .i64 0)), (.sc (.int .i64 0))] [(0, 1, (.c (.sc (.bool true)))), (2, 1, (.v 25)), (3, 1, (.v 27))]⟩,
    ⟨none, none, none, .objs [(.v 22)], .raw (opOf Tryd.prog 40 3 11)⟩])) <|
    .ret) (.nop)) <|
  .seq (.ops ([
  ⟨some 29, none, none, .objs [], .fa 1 (.v 6)⟩,
  ⟨none, none, none, .objs [], .st 1 (.v 29) (.c (.sc (.bool true)))⟩])) <| mkC [0, 5, 6] <|
  .seq (.opsD [(4, 6), (6, 7)] ([
  ⟨some 30, none, none, .objs [], .mv (.v 0)⟩,
  ⟨some 31, none, none, .objs [], .nc (.v 30)⟩,
  ⟨some 32, none, none, .objs [], .fa 0 (.v 31)⟩,
  ⟨some 33, none, none, .objs [], .fa 1 (.v 32)⟩,
  ⟨some 34, none, none, .objs [(.v 33)], .ld false 1 (.v 33)⟩,
  ⟨some 35, none, none, .objs [(.v 5)], .ld true 4 (.v 5)⟩,
  ⟨some 36, none, none, .cal (.c (.fn (.func 35) [] [])) [(.v 35)], .call (.c (.fn (.func 35) [] [])) [(.v 35)]⟩,
  ⟨some 37, none, none, .objs [(.v 6)], .ld true 4 (.v 6)⟩,
  ⟨none, none, none, .objs [(.v 34)], .raw (opOf Tryd.prog 40 5 8)⟩])) <|
  .opsD [] ([
  ⟨some 38, none, none, .objs [], .mv (.v 0)⟩,
  ⟨some 39, none, none, .objs [], .nc (.v 38)⟩,
  ⟨some 40, none, none, .objs [], .fa 0 (.v 39)⟩,
  ⟨some 41, none, none, .objs [], .fa 2 (.v 40)⟩,
  ⟨some 42, none, none, .objs [(.v 41)], .ld false 1 (.v 41)⟩] ++ mkL [0, 5, 6, 42] ([
  ⟨some 43, none, none, .objs [], .fa 1 (.v 5)⟩,
  ⟨some 44, none, none, .objs [(.v 43)], .ld false 1 (.v 43)⟩,
  ⟨some 45, none, none, .objs [], .mv (.v 0)⟩,
  ⟨some 46, none, none, .objs [], .nc (.v 45)⟩,
  ⟨some 47, none, none, .objs [], .fa 0 (.v 46)⟩,
  ⟨some 48, none, none, .objs [], .fa 2 (.v 47)⟩,
  ⟨some 49, none, none, .objs [(.v 48)], .ld false 1 (.v 48)⟩,
  ⟨some 50, none, none, .objs [], .fa 1 (.v 5)⟩,
  ⟨some 51, none, none, .objs [(.v 50)], .ld false 1 (.v 50)⟩,
  ⟨some 52, none, none, .objs [(.v 49)], .raw (opOf Tryd.prog 40 6 14)⟩,
  ⟨some 53, none, none, .objs [], .fa 2 (.v 6)⟩,
  ⟨some 54, none, none, .objs [(.v 53)], .ld false 1 (.v 53)⟩,
  ⟨some 55, none, none, .objs [], .mnx true (.v 52) (.v 54)⟩,
  ⟨none, none, none, .objs [(.v 42)], .raw (opOf Tryd.prog 40 6 18)⟩]))

theorem il40_eq : cFn Tryd.prog pol 40 = some ⟨56, il40c, []⟩ := by kernel_rfl
theorem raw40_1_7 {e : FEnv} {h : Heap} : iStep Tryd.prog pol 40 e h (.raw (opOf Tryd.prog 40 1 7)) = vOf h (lkV Tryd.prog 75 false h (Src.get e (.v 11)) (Src.get e (.v 13))) := raw_lookup (x := (.tmp 11)) (ix := (.tmp 13)) (by kernel_rfl)
theorem raw40_3_11 {e : FEnv} {h : Heap} : iStep Tryd.prog pol 40 e h (.raw (opOf Tryd.prog 40 3 11)) = hOf (upV Tryd.prog 75 h (Src.get e (.v 22)) (Src.get e (.v 24)) (Src.get e (.v 28))) := raw_update (m := (.tmp 22)) (k := (.tmp 24)) (x := (.tmp 28)) (by kernel_rfl)
theorem raw40_5_8 {e : FEnv} {h : Heap} : iStep Tryd.prog pol 40 e h (.raw (opOf Tryd.prog 40 5 8)) = hOf (upV Tryd.prog 75 h (Src.get e (.v 34)) (Src.get e (.v 36)) (Src.get e (.v 37))) := raw_update (m := (.tmp 34)) (k := (.tmp 36)) (x := (.tmp 37)) (by kernel_rfl)
theorem raw40_6_14 {e : FEnv} {h : Heap} : iStep Tryd.prog pol 40 e h (.raw (opOf Tryd.prog 40 6 14)) = vOf h (lkV Tryd.prog 76 false h (Src.get e (.v 49)) (Src.get e (.v 51))) := raw_lookup (x := (.tmp 49)) (ix := (.tmp 51)) (by kernel_rfl)
theorem raw40_6_18 {e : FEnv} {h : Heap} : iStep Tryd.prog pol 40 e h (.raw (opOf Tryd.prog 40 6 18)) = hOf (upV Tryd.prog 76 h (Src.get e (.v 42)) (Src.get e (.v 44)) (Src.get e (.v 55))) := raw_update (m := (.tmp 42)) (k := (.tmp 44)) (x := (.tmp 55)) (by kernel_rfl)

noncomputable def il43c : C :=
  .seq (.ops ([
  ⟨some 3, none, none, .objs [], .bx false (.v 1)⟩,
  ⟨some 4, none, none, .objs [], .mv (.c (.sc (.bool false)))⟩])) <|
  .seq (.opsD [(4, 11), (6, 11), (7, 11)] ([
  ⟨some 8, none, none, .objs [], .mv (.v 0)⟩,
  ⟨some 9, none, none, .objs [], .nc (.v 8)⟩,
  ⟨some 10, none, none, .objs [], .fa 0 (.v 9)⟩,
  ⟨some 11, none, none, .objs [], .fa 0 (.v 10)⟩,
  ⟨some 12, none, none, .objs [(.v 11)], .ld false 1 (.v 11)⟩,
  ⟨some 13, none, none, .objs [], .fa 1 (.v 3)⟩,
  ⟨some 14, none, none, .objs [(.v 13)], .ld false 1 (.v 13)⟩,
  ⟨some 15, none, none, .objs [(.v 12)], .raw (opOf Tryd.prog 43 1 7)⟩,
  ⟨some 7, none, none, .objs [], .mv (.v 15)⟩,
  ⟨some 16, none, none, .objs [], .ex (.v 7) 0⟩,
  ⟨some 17, none, none, .objs [], .ex (.v 7) 1⟩,
  ⟨some 5, none, none, .objs [], .nw 4 (.agg [(.sc (.int .i64 0)), (.sc (.int .i64 0)), (.sc (.int .i64 0)), (.sc (.bool false))])⟩] ++ mkL [5, 16, 17] ([
  ⟨none, none, none, .objs [(.v 5)], .st 4 (.v 5) (.v 16)⟩,
  ⟨some 6, none, none, .objs [], .mv (.v 17)⟩]))) <|
  .seq (.ops ([
  ⟨some 18, none, none, .objs [], .mv (.v 6)⟩,
  ⟨some 19, none, none, .objs [], .nt (.v 18)⟩,
  ⟨some 4, none, none, .objs [], .mv (.v 19)⟩])) <|
  .ret

theorem il43_eq : cFn Tryd.prog pol 43 = some ⟨20, il43c, [(4, none)]⟩ := by kernel_rfl
theorem raw43_1_7 {e : FEnv} {h : Heap} : iStep Tryd.prog pol 43 e h (.raw (opOf Tryd.prog 43 1 7)) = vOf h (lkV Tryd.prog 74 true h (Src.get e (.v 12)) (Src.get e (.v 14))) := raw_lookup (x := (.tmp 12)) (ix := (.tmp 14)) (by kernel_rfl)

noncomputable def il44c : C :=
  .seq (.ops ([
  ⟨some 2, none, none, .objs [], .bx false (.v 0)⟩,
  ⟨some 3, none, none, .objs [], .mv (.c (.sc (.bool false)))⟩])) <|
  .seq (.opsD [(4, 10), (8, 10)] ([
  ⟨some 4, none, none, .objs [], .fa 0 (.v 2)⟩,
  ⟨some 5, none, none, .objs [(.v 4)], .ld false 1 (.v 4)⟩,
  ⟨some 6, none, none, .objs [], .bin .eql false (.v 5) (.c (.sc (.int .i64 1)))⟩,
  ⟨some 7, none, none, .objs [], .mv (.v 6)⟩,
  ⟨some 8, some (7, true), none, .objs [(.v 1)], .ld false 1 (.v 1)⟩,
  ⟨some 9, some (7, true), none, .objs [], .nc (.v 8)⟩,
  ⟨some 10, some (7, true), none, .objs [], .fa 0 (.v 9)⟩,
  ⟨some 11, some (7, true), none, .objs [], .fa 1 (.v 10)⟩,
  ⟨some 12, some (7, true), none, .objs [(.v 11)], .ld false 1 (.v 11)⟩,
  ⟨some 13, some (7, true), none, .objs [(.v 2)], .ld true 4 (.v 2)⟩,
  ⟨some 14, some (7, true), none, .cal (.c (.fn (.func 35) [] [])) [(.v 13)], .call (.c (.fn (.func 35) [] [])) [(.v 13)]⟩,
  ⟨some 15, some (7, true), none, .objs [(.v 12)], .raw (opOf Tryd.prog 44 1 11)⟩] ++ mkL [7, 15] ([
  ⟨some 16, some (7, true), none, .objs [], .fd false 1 0 (.v 15)⟩,
  ⟨some 17, none, none, .objs [], .pk (.v 7) (.v 16) (.c (.sc (.bool false)))⟩,
  ⟨some 3, none, none, .objs [], .mv (.v 17)⟩]))) <|
  .ret

theorem il44_eq : cFn Tryd.prog pol 44 = some ⟨18, il44c, [(3, none)]⟩ := by kernel_rfl
theorem raw44_1_11 {e : FEnv} {h : Heap} : iStep Tryd.prog pol 44 e h (.raw (opOf Tryd.prog 44 1 11)) = vOf h (lkV Tryd.prog 75 false h (Src.get e (.v 12)) (Src.get e (.v 14))) := raw_lookup (x := (.tmp 12)) (ix := (.tmp 14)) (by kernel_rfl)

noncomputable def il45c : C :=
  .seq (.ops ([
  ⟨some 2, none, none, .objs [], .bx false (.v 0)⟩,
  ⟨some 3, none, none, .objs [], .mv (.c (.sc (.bool false)))⟩])) <|
  .seq (.opsD [(4, 10), (8, 10)] ([
  ⟨some 4, none, none, .objs [], .fa 0 (.v 2)⟩,
  ⟨some 5, none, none, .objs [(.v 4)], .ld false 1 (.v 4)⟩,
  ⟨some 6, none, none, .objs [], .bin .eql false (.v 5) (.c (.sc (.int .i64 2)))⟩,
  ⟨some 7, none, none, .objs [], .mv (.v 6)⟩,
  ⟨some 8, some (7, true), none, .objs [(.v 1)], .ld false 1 (.v 1)⟩,
  ⟨some 9, some (7, true), none, .objs [], .nc (.v 8)⟩,
  ⟨some 10, some (7, true), none, .objs [], .fa 0 (.v 9)⟩,
  ⟨some 11, some (7, true), none, .objs [], .fa 1 (.v 10)⟩,
  ⟨some 12, some (7, true), none, .objs [(.v 11)], .ld false 1 (.v 11)⟩,
  ⟨some 13, some (7, true), none, .objs [(.v 2)], .ld true 4 (.v 2)⟩,
  ⟨some 14, some (7, true), none, .cal (.c (.fn (.func 35) [] [])) [(.v 13)], .call (.c (.fn (.func 35) [] [])) [(.v 13)]⟩,
  ⟨some 15, some (7, true), none, .objs [(.v 12)], .raw (opOf Tryd.prog 45 1 11)⟩] ++ mkL [7, 15] ([
  ⟨some 16, some (7, true), none, .objs [], .fd false 1 0 (.v 15)⟩,
  ⟨some 17, some (7, true), none, .objs [], .nt (.v 16)⟩,
  ⟨some 18, none, none, .objs [], .pk (.v 7) (.v 17) (.c (.sc (.bool false)))⟩,
  ⟨some 3, none, none, .objs [], .mv (.v 18)⟩]))) <|
  .ret

theorem il45_eq : cFn Tryd.prog pol 45 = some ⟨19, il45c, [(3, none)]⟩ := by kernel_rfl
theorem raw45_1_11 {e : FEnv} {h : Heap} : iStep Tryd.prog pol 45 e h (.raw (opOf Tryd.prog 45 1 11)) = vOf h (lkV Tryd.prog 75 false h (Src.get e (.v 12)) (Src.get e (.v 14))) := raw_lookup (x := (.tmp 12)) (ix := (.tmp 14)) (by kernel_rfl)

noncomputable def il46c : C :=
  .seq (.ops ([
  ⟨some 2, none, none, .objs [], .bx false (.v 0)⟩,
  ⟨some 3, none, none, .objs [], .mv (.c (.sc (.bool false)))⟩])) <|
  .seq (.opsD [(4, 10), (8, 10)] ([
  ⟨some 4, none, none, .objs [], .fa 0 (.v 2)⟩,
  ⟨some 5, none, none, .objs [(.v 4)], .ld false 1 (.v 4)⟩,
  ⟨some 6, none, none, .objs [], .bin .eql false (.v 5) (.c (.sc (.int .i64 2)))⟩,
  ⟨some 7, none, none, .objs [], .mv (.v 6)⟩,
  ⟨some 8, some (7, true), none, .objs [(.v 1)], .ld false 1 (.v 1)⟩,
  ⟨some 9, some (7, true), none, .objs [], .nc (.v 8)⟩,
  ⟨some 10, some (7, true), none, .objs [], .fa 0 (.v 9)⟩,
  ⟨some 11, some (7, true), none, .objs [], .fa 1 (.v 10)⟩,
  ⟨some 12, some (7, true), none, .objs [(.v 11)], .ld false 1 (.v 11)⟩,
  ⟨some 13, some (7, true), none, .objs [(.v 2)], .ld true 4 (.v 2)⟩,
  ⟨some 14, some (7, true), none, .cal (.c (.fn (.func 35) [] [])) [(.v 13)], .call (.c (.fn (.func 35) [] [])) [(.v 13)]⟩,
  ⟨some 15, some (7, true), none, .objs [(.v 12)], .raw (opOf Tryd.prog 46 1 11)⟩] ++ mkL [7, 15] ([
  ⟨some 16, some (7, true), none, .objs [], .fd false 1 1 (.v 15)⟩,
  ⟨some 17, none, none, .objs [], .pk (.v 7) (.v 16) (.c (.sc (.bool false)))⟩,
  ⟨some 3, none, none, .objs [], .mv (.v 17)⟩]))) <|
  .ret

theorem il46_eq : cFn Tryd.prog pol 46 = some ⟨18, il46c, [(3, none)]⟩ := by kernel_rfl
theorem raw46_1_11 {e : FEnv} {h : Heap} : iStep Tryd.prog pol 46 e h (.raw (opOf Tryd.prog 46 1 11)) = vOf h (lkV Tryd.prog 75 false h (Src.get e (.v 12)) (Src.get e (.v 14))) := raw_lookup (x := (.tmp 12)) (ix := (.tmp 14)) (by kernel_rfl)

noncomputable def il47c : C :=
  .seq (.ops ([
  ⟨some 2, none, none, .objs [], .bx false (.v 0)⟩,
  ⟨some 3, none, none, .objs [], .mv (.c (.sc (.bool false)))⟩])) <|
  .seq (.opsD [(5, 12), (6, 12), (10, 12), (12, 16), (12, 20), (12, 22), (12, 23)] ([
  ⟨some 4, none, none, .objs [], .fa 0 (.v 2)⟩,
  ⟨some 5, none, none, .objs [(.v 4)], .ld false 1 (.v 4)⟩,
  ⟨some 6, none, none, .objs [], .bin .eql false (.v 5) (.c (.sc (.int .i64 2)))⟩,
  ⟨some 7, none, none, .objs [], .mv (.v 6)⟩,
  ⟨some 8, some (7, true), none, .objs [], .fa 3 (.v 2)⟩,
  ⟨some 9, some (7, true), none, .objs [(.v 8)], .ld false 1 (.v 8)⟩,
  ⟨some 10, some (7, true), none, .objs [(.v 1)], .ld false 1 (.v 1)⟩,
  ⟨some 11, some (7, true), none, .objs [], .nc (.v 10)⟩,
  ⟨some 12, some (7, true), none, .objs [], .fa 0 (.v 11)⟩,
  ⟨some 13, some (7, true), none, .objs [], .fa 1 (.v 12)⟩,
  ⟨some 14, some (7, true), none, .objs [(.v 13)], .ld false 1 (.v 13)⟩,
  ⟨some 15, some (7, true), none, .objs [(.v 2)], .ld true 4 (.v 2)⟩] ++ mkL [1, 2, 7, 9, 14, 15] ([
  ⟨some 16, some (7, true), none, .cal (.c (.fn (.func 35) [] [])) [(.v 15)], .call (.c (.fn (.func 35) [] [])) [(.v 15)]⟩,
  ⟨some 17, some (7, true), none, .objs [(.v 14)], .raw (opOf Tryd.prog 47 1 13)⟩,
  ⟨some 18, some (7, true), none, .objs [], .fd false 1 3 (.v 17)⟩,
  ⟨some 19, some (7, true), none, .objs [], .bin .sub false (.v 9) (.v 18)⟩,
  ⟨some 20, some (7, true), none, .objs [(.v 1)], .ld false 1 (.v 1)⟩,
  ⟨some 21, some (7, true), none, .objs [], .nc (.v 20)⟩,
  ⟨some 22, some (7, true), none, .objs [], .fa 0 (.v 21)⟩,
  ⟨some 23, some (7, true), none, .objs [], .fa 0 (.v 22)⟩,
  ⟨some 24, some (7, true), none, .objs [(.v 23)], .ld false 1 (.v 23)⟩,
  ⟨some 25, some (7, true), none, .objs [], .fa 1 (.v 2)⟩,
  ⟨some 26, some (7, true), none, .objs [(.v 25)], .ld false 1 (.v 25)⟩,
  ⟨some 27, some (7, true), none, .objs [(.v 24)], .raw (opOf Tryd.prog 47 1 23)⟩,
  ⟨some 28, some (7, true), none, .objs [], .fd false 1 1 (.v 27)⟩,
  ⟨some 29, some (7, true), none, .objs [], .bin .lss false (.v 19) (.v 28)⟩] ++ mkL [7, 29] ([
  ⟨some 30, none, none, .objs [], .pk (.v 7) (.v 29) (.c (.sc (.bool false)))⟩,
  ⟨some 3, none, none, .objs [], .mv (.v 30)⟩])))) <|
  .ret

theorem il47_eq : cFn Tryd.prog pol 47 = some ⟨31, il47c, [(3, none)]⟩ := by kernel_rfl
theorem raw47_1_13 {e : FEnv} {h : Heap} : iStep Tryd.prog pol 47 e h (.raw (opOf Tryd.prog 47 1 13)) = vOf h (lkV Tryd.prog 75 false h (Src.get e (.v 14)) (Src.get e (.v 16))) := raw_lookup (x := (.tmp 14)) (ix := (.tmp 16)) (by kernel_rfl)
theorem raw47_1_23 {e : FEnv} {h : Heap} : iStep Tryd.prog pol 47 e h (.raw (opOf Tryd.prog 47 1 23)) = vOf h (lkV Tryd.prog 74 false h (Src.get e (.v 24)) (Src.get e (.v 26))) := raw_lookup (x := (.tmp 24)) (ix := (.tmp 26)) (by kernel_rfl)

noncomputable def il48c : C :=
  .seq (.ops ([
  ⟨some 2, none, none, .objs [], .bx false (.v 0)⟩,
  ⟨some 3, none, none, .objs [], .mv (.c (.sc (.bool false)))⟩])) <|
  .seq (.opsD [(5, 12), (6, 12), (10, 12), (12, 16), (12, 20), (12, 22), (12, 23)] ([
  ⟨some 4, none, none, .objs [], .fa 0 (.v 2)⟩,
  ⟨some 5, none, none, .objs [(.v 4)], .ld false 1 (.v 4)⟩,
  ⟨some 6, none, none, .objs [], .bin .eql false (.v 5) (.c (.sc (.int .i64 2)))⟩,
  ⟨some 7, none, none, .objs [], .mv (.v 6)⟩,
  ⟨some 8, some (7, true), none, .objs [], .fa 3 (.v 2)⟩,
  ⟨some 9, some (7, true), none, .objs [(.v 8)], .ld false 1 (.v 8)⟩,
  ⟨some 10, some (7, true), none, .objs [(.v 1)], .ld false 1 (.v 1)⟩,
  ⟨some 11, some (7, true), none, .objs [], .nc (.v 10)⟩,
  ⟨some 12, some (7, true), none, .objs [], .fa 0 (.v 11)⟩,
  ⟨some 13, some (7, true), none, .objs [], .fa 1 (.v 12)⟩,
  ⟨some 14, some (7, true), none, .objs [(.v 13)], .ld false 1 (.v 13)⟩,
  ⟨some 15, some (7, true), none, .objs [(.v 2)], .ld true 4 (.v 2)⟩] ++ mkL [1, 2, 7, 9, 14, 15] ([
  ⟨some 16, some (7, true), none, .cal (.c (.fn (.func 35) [] [])) [(.v 15)], .call (.c (.fn (.func 35) [] [])) [(.v 15)]⟩,
  ⟨some 17, some (7, true), none, .objs [(.v 14)], .raw (opOf Tryd.prog 48 1 13)⟩,
  ⟨some 18, some (7, true), none, .objs [], .fd false 1 3 (.v 17)⟩,
  ⟨some 19, some (7, true), none, .objs [], .bin .sub false (.v 9) (.v 18)⟩,
  ⟨some 20, some (7, true), none, .objs [(.v 1)], .ld false 1 (.v 1)⟩,
  ⟨some 21, some (7, true), none, .objs [], .nc (.v 20)⟩,
  ⟨some 22, some (7, true), none, .objs [], .fa 0 (.v 21)⟩,
  ⟨some 23, some (7, true), none, .objs [], .fa 0 (.v 22)⟩,
  ⟨some 24, some (7, true), none, .objs [(.v 23)], .ld false 1 (.v 23)⟩,
  ⟨some 25, some (7, true), none, .objs [], .fa 1 (.v 2)⟩,
  ⟨some 26, some (7, true), none, .objs [(.v 25)], .ld false 1 (.v 25)⟩,
  ⟨some 27, some (7, true), none, .objs [(.v 24)], .raw (opOf Tryd.prog 48 1 23)⟩,
  ⟨some 28, some (7, true), none, .objs [], .fd false 1 2 (.v 27)⟩,
  ⟨some 29, some (7, true), none, .objs [], .bin .gtr false (.v 19) (.v 28)⟩] ++ mkL [7, 29] ([
  ⟨some 30, none, none, .objs [], .pk (.v 7) (.v 29) (.c (.sc (.bool false)))⟩,
  ⟨some 3, none, none, .objs [], .mv (.v 30)⟩])))) <|
  .ret

theorem il48_eq : cFn Tryd.prog pol 48 = some ⟨31, il48c, [(3, none)]⟩ := by kernel_rfl
theorem raw48_1_13 {e : FEnv} {h : Heap} : iStep Tryd.prog pol 48 e h (.raw (opOf Tryd.prog 48 1 13)) = vOf h (lkV Tryd.prog 75 false h (Src.get e (.v 14)) (Src.get e (.v 16))) := raw_lookup (x := (.tmp 14)) (ix := (.tmp 16)) (by kernel_rfl)
theorem raw48_1_23 {e : FEnv} {h : Heap} : iStep Tryd.prog pol 48 e h (.raw (opOf Tryd.prog 48 1 23)) = vOf h (lkV Tryd.prog 74 false h (Src.get e (.v 24)) (Src.get e (.v 26))) := raw_lookup (x := (.tmp 24)) (ix := (.tmp 26)) (by kernel_rfl)

noncomputable def il49c : C :=
  .seq (.ops ([
  ⟨some 3, none, none, .objs [], .bx false (.v 1)⟩,
  ⟨some 4, none, none, .objs [], .mv (.c (.sc (.bool false)))⟩])) <|
  .seq (.seq (.opsD [] ([
  ⟨some 7, none, none, .objs [], .fa 0 (.v 3)⟩,
  ⟨some 8, none, none, .objs [(.v 7)], .ld false 1 (.v 7)⟩,
  ⟨some 9, none, none, .objs [], .bin .neq false (.v 8) (.c (.sc (.int .i64 2)))⟩,
  ⟨some 10, none, none, .objs [], .mv (.v 9)⟩,
  ⟨some 11, some (10, false), none, .objs [], .mv (.v 0)⟩,
  ⟨some 12, some (10, false), none, .objs [], .nc (.v 11)⟩,
  ⟨some 13, some (10, false), none, .objs [], .fa 0 (.v 12)⟩,
  ⟨some 14, some (10, false), none, .objs [], .fa 0 (.v 13)⟩,
  ⟨some 15, some (10, false), none, .objs [(.v 14)], .ld false 1 (.v 14)⟩,
  ⟨some 16, some (10, false), none, .objs [], .fa 1 (.v 3)⟩,
  ⟨some 17, some (10, false), none, .objs [(.v 16)], .ld false 1 (.v 16)⟩,
  ⟨some 18, some (10, false), none, .objs [(.v 15)], .raw (opOf Tryd.prog 49 1 11)⟩] ++ mkL [0, 3, 10, 18] ([
  ⟨some 19, some (10, false), none, .objs [], .fd false 1 3 (.v 18)⟩,
  ⟨some 20, some (10, false), none, .objs [], .nt (.v 19)⟩,
  ⟨some 21, none, none, .objs [], .pk (.v 10) (.c (.sc (.bool true))) (.v 20)⟩]))) <|
  .cond (.v 21) (.seq (.ops ([
    ⟨some 4, none, none, .objs [], .mv (.c (.sc (.bool false)))⟩])) <|
    .ret) (.nop)) <|
  .seq (.opsD [] ([
  ⟨some 23, none, none, .objs [], .mv (.v 0)⟩,
  ⟨some 24, none, none, .objs [], .nc (.v 23)⟩,
  ⟨some 25, none, none, .objs [], .fa 0 (.v 24)⟩,
  ⟨some 26, none, none, .objs [], .fa 2 (.v 25)⟩,
  ⟨some 27, none, none, .objs [(.v 26)], .ld false 1 (.v 26)⟩,
  ⟨some 28, none, none, .objs [], .fa 1 (.v 3)⟩,
  ⟨some 29, none, none, .objs [(.v 28)], .ld false 1 (.v 28)⟩,
  ⟨some 30, none, none, .objs [(.v 27)], .raw (opOf Tryd.prog 49 3 7)⟩,
  ⟨some 22, none, none, .objs [], .mv (.v 30)⟩,
  ⟨some 31, none, none, .objs [], .ex (.v 22) 0⟩] ++ mkL [0, 3, 22, 31] ([
  ⟨some 32, none, none, .objs [], .ex (.v 22) 1⟩,
  ⟨some 5, none, none, .objs [], .mv (.v 31)⟩,
  ⟨some 6, none, none, .objs [], .mv (.v 32)⟩]))) <|
  .seq (.opsD [(7, 9)] ([
  ⟨some 33, none, none, .objs [], .mv (.v 6)⟩,
  ⟨some 34, none, none, .objs [], .mv (.v 33)⟩,
  ⟨some 35, some (34, true), none, .objs [], .mv (.v 5)⟩,
  ⟨some 36, some (34, true), none, .objs [], .mv (.v 0)⟩,
  ⟨some 37, some (34, true), none, .objs [], .nc (.v 36)⟩,
  ⟨some 38, some (34, true), none, .objs [], .fa 0 (.v 37)⟩,
  ⟨some 39, some (34, true), none, .objs [], .fa 1 (.v 38)⟩,
  ⟨some 40, some (34, true), none, .objs [(.v 39)], .ld false 1 (.v 39)⟩,
  ⟨some 41, some (34, true), none, .objs [(.v 3)], .ld true 4 (.v 3)⟩,
  ⟨some 42, some (34, true), none, .cal (.c (.fn (.func 35) [] [])) [(.v 41)], .call (.c (.fn (.func 35) [] [])) [(.v 41)]⟩,
  ⟨some 43, some (34, true), none, .objs [(.v 40)], .raw (opOf Tryd.prog 49 4 10)⟩] ++ mkL [34, 35, 43] ([
  ⟨some 44, some (34, true), none, .objs [], .fd false 1 2 (.v 43)⟩,
  ⟨some 45, some (34, true), none, .objs [], .bin .gtr false (.v 35) (.v 44)⟩,
  ⟨some 46, none, none, .objs [], .pk (.v 34) (.v 45) (.c (.sc (.bool false)))⟩,
  ⟨some 4, none, none, .objs [], .mv (.v 46)⟩]))) <|
  .ret

theorem il49_eq : cFn Tryd.prog pol 49 = some ⟨47, il49c, [(4, none)]⟩ := by kernel_rfl
theorem raw49_1_11 {e : FEnv} {h : Heap} : iStep Tryd.prog pol 49 e h (.raw (opOf Tryd.prog 49 1 11)) = vOf h (lkV Tryd.prog 74 false h (Src.get e (.v 15)) (Src.get e (.v 17))) := raw_lookup (x := (.tmp 15)) (ix := (.tmp 17)) (by kernel_rfl)
theorem raw49_3_7 {e : FEnv} {h : Heap} : iStep Tryd.prog pol 49 e h (.raw (opOf Tryd.prog 49 3 7)) = vOf h (lkV Tryd.prog 76 true h (Src.get e (.v 27)) (Src.get e (.v 29))) := raw_lookup (x := (.tmp 27)) (ix := (.tmp 29)) (by kernel_rfl)
theorem raw49_4_10 {e : FEnv} {h : Heap} : iStep Tryd.prog pol 49 e h (.raw (opOf Tryd.prog 49 4 10)) = vOf h (lkV Tryd.prog 75 false h (Src.get e (.v 40)) (Src.get e (.v 42))) := raw_lookup (x := (.tmp 40)) (ix := (.tmp 42)) (by kernel_rfl)

attribute [go_sem] eqT34
attribute [go_sem] eqT22
attribute [go_sem] eqT23
attribute [go_sem] raw7_17_0
attribute [go_sem] raw7_26_16
attribute [go_sem] raw16_7_0
attribute [go_sem] raw16_12_3
attribute [go_sem] raw16_14_5
attribute [go_sem] raw40_1_7
attribute [go_sem] raw40_3_11
attribute [go_sem] raw40_5_8
attribute [go_sem] raw40_6_14
attribute [go_sem] raw40_6_18
attribute [go_sem] raw43_1_7
attribute [go_sem] raw44_1_11
attribute [go_sem] raw45_1_11
attribute [go_sem] raw46_1_11
attribute [go_sem] raw47_1_13
attribute [go_sem] raw47_1_23
attribute [go_sem] raw48_1_13
attribute [go_sem] raw48_1_23
attribute [go_sem] raw49_1_11
attribute [go_sem] raw49_3_7
attribute [go_sem] raw49_4_10
end Go.Proofs.YthcaepnclhgkmaaDoor
