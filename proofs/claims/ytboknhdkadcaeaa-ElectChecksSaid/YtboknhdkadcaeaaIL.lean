/- Functions of the program, worked out ahead (printed by a program; each is checked against the program by the kernel). -/
import Derived.Test.YtboknhdkadcaeaaILBase
set_option linter.unusedSimpArgs false
namespace Go.Proofs.Ytboknhdkadcaeaa
open Go Go.Abs
set_option maxRecDepth 100000
set_option linter.unusedVariables false

theorem eqT33 {a0 b0 : Int} {a1 b1 : Int} {a2 b2 : Int} {a3 b3 : Int} {a4 b4 : Int} {a5 b5 : Int} {a6 b6 : Int} {a7 b7 : Int} {a8 b8 : Int} : aEq Try.prog 33 (.t (.agg [.sc (.int .i64 a0), .sc (.int .i64 a1), .sc (.int .i64 a2), .sc (.int .i64 a3), .sc (.int .i64 a4), .sc (.int .i64 a5), .sc (.int .i64 a6), .sc (.int .i64 a7), .sc (.int .i64 a8)])) (.t (.agg [.sc (.int .i64 b0), .sc (.int .i64 b1), .sc (.int .i64 b2), .sc (.int .i64 b3), .sc (.int .i64 b4), .sc (.int .i64 b5), .sc (.int .i64 b6), .sc (.int .i64 b7), .sc (.int .i64 b8)])) = some (decide (a0 = b0 ∧ a1 = b1 ∧ a2 = b2 ∧ a3 = b3 ∧ a4 = b4 ∧ a5 = b5 ∧ a6 = b6 ∧ a7 = b7 ∧ a8 = b8)) :=
  (show aEq Try.prog 33 (.t (.agg [.sc (.int .i64 a0), .sc (.int .i64 a1), .sc (.int .i64 a2), .sc (.int .i64 a3), .sc (.int .i64 a4), .sc (.int .i64 a5), .sc (.int .i64 a6), .sc (.int .i64 a7), .sc (.int .i64 a8)])) (.t (.agg [.sc (.int .i64 b0), .sc (.int .i64 b1), .sc (.int .i64 b2), .sc (.int .i64 b3), .sc (.int .i64 b4), .sc (.int .i64 b5), .sc (.int .i64 b6), .sc (.int .i64 b7), .sc (.int .i64 b8)])) = some (((a0 == b0) && ((a1 == b1) && ((a2 == b2) && ((a3 == b3) && ((a4 == b4) && ((a5 == b5) && true)))))) && ((a6 == b6) && ((a7 == b7) && ((a8 == b8) && true)))) by kernel_rfl).trans (by congr 1; rw [Bool.eq_iff_iff]; simp [and_assoc])

theorem eqT31 {a0 b0 : Int} {a1 b1 : Int} {a2 b2 : Int} {a3 b3 : Int} {a4 b4 : Int} {a5 b5 : Int} : aEq Try.prog 31 (.t (.agg [.sc (.int .i64 a0), .sc (.int .i64 a1), .sc (.int .i64 a2), .sc (.int .i64 a3), .sc (.int .i64 a4), .sc (.int .i64 a5)])) (.t (.agg [.sc (.int .i64 b0), .sc (.int .i64 b1), .sc (.int .i64 b2), .sc (.int .i64 b3), .sc (.int .i64 b4), .sc (.int .i64 b5)])) = some (decide (a0 = b0 ∧ a1 = b1 ∧ a2 = b2 ∧ a3 = b3 ∧ a4 = b4 ∧ a5 = b5)) :=
  (show aEq Try.prog 31 (.t (.agg [.sc (.int .i64 a0), .sc (.int .i64 a1), .sc (.int .i64 a2), .sc (.int .i64 a3), .sc (.int .i64 a4), .sc (.int .i64 a5)])) (.t (.agg [.sc (.int .i64 b0), .sc (.int .i64 b1), .sc (.int .i64 b2), .sc (.int .i64 b3), .sc (.int .i64 b4), .sc (.int .i64 b5)])) = some ((a0 == b0) && ((a1 == b1) && ((a2 == b2) && ((a3 == b3) && ((a4 == b4) && ((a5 == b5) && true)))))) by kernel_rfl).trans (by congr 1; rw [Bool.eq_iff_iff]; simp [and_assoc])

theorem eqT62 {a0 b0 : Int} {a1 b1 : Int} : aEq Try.prog 62 (.t (.agg [.sc (.int .i64 a0), .sc (.int .i64 a1)])) (.t (.agg [.sc (.int .i64 b0), .sc (.int .i64 b1)])) = some (decide (a0 = b0 ∧ a1 = b1)) :=
  (show aEq Try.prog 62 (.t (.agg [.sc (.int .i64 a0), .sc (.int .i64 a1)])) (.t (.agg [.sc (.int .i64 b0), .sc (.int .i64 b1)])) = some ((a0 == b0) && ((a1 == b1) && true)) by kernel_rfl).trans (by congr 1; rw [Bool.eq_iff_iff]; simp [and_assoc])

theorem eqT47 : isSliceT Try.prog 47 = true := by kernel_rfl

theorem eqT76 {a0 b0 : Int} {a1 b1 : Int} {a2 b2 : Int} {a3 b3 : Int} {a4 b4 : Int} {a5 b5 : Int} {a6 b6 : Int} {a7 b7 : Int} {a8 b8 : Int} : aEq Try.prog 76 (.t (.agg [.sc (.int .i64 a0), .sc (.int .i64 a1), .sc (.int .i64 a2), .sc (.int .i64 a3), .sc (.int .i64 a4), .sc (.int .i64 a5), .sc (.int .i64 a6), .sc (.int .i64 a7), .sc (.int .i64 a8)])) (.t (.agg [.sc (.int .i64 b0), .sc (.int .i64 b1), .sc (.int .i64 b2), .sc (.int .i64 b3), .sc (.int .i64 b4), .sc (.int .i64 b5), .sc (.int .i64 b6), .sc (.int .i64 b7), .sc (.int .i64 b8)])) = some (decide (a0 = b0 ∧ a1 = b1 ∧ a2 = b2 ∧ a3 = b3 ∧ a4 = b4 ∧ a5 = b5 ∧ a6 = b6 ∧ a7 = b7 ∧ a8 = b8)) :=
  (show aEq Try.prog 76 (.t (.agg [.sc (.int .i64 a0), .sc (.int .i64 a1), .sc (.int .i64 a2), .sc (.int .i64 a3), .sc (.int .i64 a4), .sc (.int .i64 a5), .sc (.int .i64 a6), .sc (.int .i64 a7), .sc (.int .i64 a8)])) (.t (.agg [.sc (.int .i64 b0), .sc (.int .i64 b1), .sc (.int .i64 b2), .sc (.int .i64 b3), .sc (.int .i64 b4), .sc (.int .i64 b5), .sc (.int .i64 b6), .sc (.int .i64 b7), .sc (.int .i64 b8)])) = some (((a0 == b0) && ((a1 == b1) && ((a2 == b2) && ((a3 == b3) && ((a4 == b4) && ((a5 == b5) && true)))))) && ((a6 == b6) && ((a7 == b7) && ((a8 == b8) && true)))) by kernel_rfl).trans (by congr 1; rw [Bool.eq_iff_iff]; simp [and_assoc])

noncomputable def il3l0b : C :=
  .seq (.ops ([
  ⟨some 25, none, none, .objs [], .bin .lss false (.v 24) (.c (.sc (.int .i64 2)))⟩])) <|
  .seq (.cond (.v 25) (.nop) (.exit 0)) <|
  .seq (.block 1 (.seq (.ops ([
    ⟨some 26, none, none, .objs [], .ixA true 2 2 2 (.v 23) (.v 24)⟩,
    ⟨some 12, none, none, .objs [], .nw 2 (.agg [(.sc (.slice none 0 0)), (.sc (.slice none 0 0))])⟩,
    ⟨none, none, none, .objs [], .st 2 (.v 12) (.v 26)⟩])) <|
    .seq (.ops ([
    ⟨some 27, none, none, .objs [], .ld true 2 (.v 12)⟩,
    ⟨some 28, none, none, .objs [], .call (.c (.fn (.func 14) [] [])) [(.v 27)]⟩,
    ⟨some 13, none, none, .objs [], .mv (.v 28)⟩])) <|
    .seq (.seq (.ops ([
    ⟨some 29, none, none, .objs [], .mv (.v 13)⟩,
    ⟨some 30, none, none, .objs [], .ld true 2 (.v 12)⟩,
    ⟨some 31, none, none, .objs [], .call (.c (.fn (.func 15) [] [])) [(.v 30)]⟩,
    ⟨some 32, none, none, .objs [], .bin .eql false (.v 31) (.c (.sc (.int .i64 0)))⟩,
    ⟨some 33, none, none, .objs [], .bin .neq true (.v 29) (.v 32)⟩,
    ⟨some 34, none, none, .objs [], .mv (.v 33)⟩,
    ⟨some 35, some (34, false), none, .objs [], .mv (.v 13)⟩] ++ mkL [2, 8, 9, 12, 13, 23, 24, 34, 35] ([
    ⟨some 36, some (34, false), none, .objs [], .nt (.v 35)⟩,
    ⟨some 37, some (34, false), none, .objs [], .mv (.v 36)⟩,
    ⟨some 38, some (37, true), none, .objs [], .ld true 2 (.v 12)⟩,
    ⟨some 39, some (37, true), none, .objs [], .call (.c (.fn (.func 15) [] [])) [(.v 38)]⟩,
    ⟨some 40, some (37, true), none, .objs [], .bin .neq false (.v 39) (.c (.sc (.int .i64 210)))⟩,
    ⟨some 41, some (34, false), none, .objs [], .pk (.v 37) (.v 40) (.c (.sc (.bool false)))⟩,
    ⟨some 42, none, none, .objs [], .pk (.v 34) (.c (.sc (.bool true))) (.v 41)⟩]))) <|
    .cond (.v 42) (.seq (.ops ([
      ⟨some 10, none, none, .objs [], .mv (.c (.sc (.bool false)))⟩])) <|
      .ret) (.nop)) <|
    .seq (.ops ([
    ⟨some 44, none, none, .objs [], .ld true 2 (.v 12)⟩,
    ⟨some 45, none, none, .objs [], .mv (.v 2)⟩,
    ⟨some 46, none, none, .objs [], .call (.c (.fn (.func 16) [] [])) [(.v 44), (.v 45)]⟩,
    ⟨some 43, none, none, .objs [], .mv (.v 46)⟩,
    ⟨some 47, none, none, .objs [], .ex (.v 43) 0⟩,
    ⟨some 48, none, none, .objs [], .ex (.v 43) 1⟩] ++ mkL [2, 8, 9, 12, 13, 23, 24, 47, 48] ([
    ⟨some 14, none, none, .objs [], .nw 9 (.agg [(.sc (.int .i64 0)), (.sc (.int .i64 0)), (.sc (.int .i64 0)), (.sc (.int .i64 0)), (.sc (.int .i64 0)), (.sc (.int .i64 0)), (.sc (.int .i64 0)), (.sc (.int .i64 0)), (.sc (.int .i64 0))])⟩,
    ⟨none, none, none, .objs [], .st 9 (.v 14) (.v 47)⟩,
    ⟨some 15, none, none, .objs [], .mv (.v 48)⟩]))) <|
    .block 2 (.seq (.ops ([
      ⟨some 59, none, none, .objs [], .mv (.v 13)⟩,
      ⟨some 60, none, none, .objs [], .nt (.v 59)⟩,
      ⟨some 58, none, none, .objs [], .mv (.v 60)⟩])) <|
      .cond (.v 58) (.seq (.ops ([
        ⟨some 61, none, none, .objs [], .mv (.v 15)⟩,
        ⟨some 62, none, none, .objs [], .bin .neq false (.v 61) (.c (.sc (.int .i64 210)))⟩,
        ⟨some 63, none, none, .objs [], .mv (.v 62)⟩,
        ⟨some 64, some (63, false), none, .objs [], .ld true 9 (.v 14)⟩,
        ⟨some 65, some (63, false), none, .objs [], .bd [(.sc (.int .i64 0)), (.sc (.int .i64 0)), (.sc (.int .i64 0)), (.sc (.int .i64 0)), (.sc (.int .i64 0)), (.sc (.int .i64 0)), (.sc (.int .i64 0)), (.sc (.int .i64 0)), (.sc (.int .i64 0))] []⟩,
        ⟨some 66, some (63, false), none, .objs [], .raw (opOf Try.prog 3 13 5)⟩,
        ⟨some 67, none, none, .objs [], .pk (.v 63) (.c (.sc (.bool true))) (.v 66)⟩])) <|
        .cond (.v 67) (.seq (.ops ([
          ⟨some 10, none, none, .objs [], .mv (.c (.sc (.bool false)))⟩])) <|
          .ret) (.nop)) (.seq (.ops ([
        ⟨some 69, none, none, .objs [], .mv (.v 2)⟩,
        ⟨some 70, none, none, .objs [], .bin .lss false (.v 69) (.c (.sc (.int .i64 0)))⟩,
        ⟨some 71, none, none, .objs [], .mv (.v 70)⟩,
        ⟨some 72, some (71, false), none, .objs [], .mv (.v 2)⟩,
        ⟨some 73, some (71, false), none, .objs [], .fa 0 (.v 12)⟩,
        ⟨some 74, some (71, false), none, .objs [], .ld false 1 (.v 73)⟩,
        ⟨some 75, some (71, false), none, .objs [], .lenS (.v 74)⟩,
        ⟨some 76, some (71, false), none, .objs [], .bin .geq false (.v 72) (.v 75)⟩] ++ mkL [2, 8, 9, 12, 14, 15, 23, 24, 71, 76] ([
        ⟨some 77, none, none, .objs [], .pk (.v 71) (.c (.sc (.bool true))) (.v 76)⟩,
        ⟨some 68, none, none, .objs [], .mv (.v 77)⟩]))) <|
        .cond (.v 68) (.seq (.ops ([
          ⟨some 78, none, none, .objs [], .mv (.v 15)⟩,
          ⟨some 79, none, none, .objs [], .bin .neq false (.v 78) (.c (.sc (.int .i64 2)))⟩,
          ⟨some 80, none, none, .objs [], .mv (.v 79)⟩,
          ⟨some 81, some (80, false), none, .objs [], .ld true 9 (.v 14)⟩,
          ⟨some 82, some (80, false), none, .objs [], .bd [(.sc (.int .i64 0)), (.sc (.int .i64 0)), (.sc (.int .i64 0)), (.sc (.int .i64 0)), (.sc (.int .i64 0)), (.sc (.int .i64 0)), (.sc (.int .i64 0)), (.sc (.int .i64 0)), (.sc (.int .i64 0))] []⟩,
          ⟨some 83, some (80, false), none, .objs [], .raw (opOf Try.prog 3 16 5)⟩,
          ⟨some 84, none, none, .objs [], .pk (.v 80) (.c (.sc (.bool true))) (.v 83)⟩])) <|
          .cond (.v 84) (.seq (.ops ([
            ⟨some 10, none, none, .objs [], .mv (.c (.sc (.bool false)))⟩])) <|
            .ret) (.nop)) (.seq (.opsD [(3, 6)] ([
          ⟨some 49, none, none, .objs [], .mv (.v 15)⟩,
          ⟨some 50, none, none, .objs [], .bin .neq false (.v 49) (.c (.sc (.int .i64 0)))⟩,
          ⟨some 51, none, none, .objs [], .mv (.v 50)⟩,
          ⟨some 52, some (51, false), none, .objs [(.v 14)], .ld true 9 (.v 14)⟩,
          ⟨some 53, some (51, false), none, .objs [(.v 12)], .ld true 2 (.v 12)⟩,
          ⟨some 54, some (51, false), none, .objs [], .mv (.v 2)⟩,
          ⟨some 55, some (51, false), none, .cal (.c (.fn (.func 17) [] [])) [(.v 53), (.v 54)], .call (.c (.fn (.func 17) [] [])) [(.v 53), (.v 54)]⟩,
          ⟨some 56, some (51, false), none, .objs [], .raw (opOf Try.prog 3 10 7)⟩,
          ⟨some 57, none, none, .objs [], .pk (.v 51) (.c (.sc (.bool true))) (.v 56)⟩])) <|
          .cond (.v 57) (.seq (.ops ([
            ⟨some 10, none, none, .objs [], .mv (.c (.sc (.bool false)))⟩])) <|
            .ret) (.nop)))))) <| mkC [2, 8, 9, 23, 24] <|
  .ops ([
  ⟨some 85, none, none, .objs [], .bin .add false (.v 24) (.c (.sc (.int .i64 1)))⟩,
  ⟨some 24, none, none, .objs [], .mv (.v 85)⟩])
noncomputable def il3l0 : C := il3l0b
theorem il3l0_go {P : Program} {pol : Pol} {K : Oracle} {I : Inl} {n : Nat} {f : FuncId} {R : Xit → FEnv → Heap → Prop} {e : FEnv} {h : Heap} : wc P pol K I n f il3l0 R e h = wc P pol K I n f il3l0b R e h := (fun x => x) rfl

/-- isochron/isochronlaw11.ElectChecks -/
noncomputable def il3c : C :=
  .seq (.ops ([
  ⟨some 5, none, none, .objs [], .bx false (.v 0)⟩,
  ⟨some 6, none, none, .objs [], .bx false (.v 1)⟩,
  ⟨some 8, none, none, .objs [], .bx false (.v 3)⟩,
  ⟨some 9, none, none, .objs [], .bx false (.v 4)⟩,
  ⟨some 10, none, none, .objs [], .mv (.c (.sc (.bool false)))⟩])) <|
  .seq (.seq (.ops ([
  ⟨some 17, none, none, .objs [], .call (.c (.fn (.func 11) [] [])) []⟩,
  ⟨some 18, none, none, .objs [], .nt (.v 17)⟩])) <|
  .cond (.v 18) (.seq (.ops ([
    ⟨some 10, none, none, .objs [], .mv (.c (.sc (.bool false)))⟩])) <|
    .ret) (.nop)) <|
  .seq (.seq (.opsD [(1, 2)] ([
  ⟨some 19, none, none, .objs [(.v 5)], .ld true 2 (.v 5)⟩,
  ⟨some 20, none, none, .cal (.c (.fn (.func 12) [] [])) [(.v 19)], .call (.c (.fn (.func 12) [] [])) [(.v 19)]⟩,
  ⟨some 21, none, none, .objs [(.v 6)], .ld true 4 (.v 6)⟩,
  ⟨some 22, none, none, .cal (.c (.fn (.func 13) [] [])) [(.v 21)], .call (.c (.fn (.func 13) [] [])) [(.v 21)]⟩,
  ⟨some 23, none, none, .objs [], .bd [(.sc (.slice none 0 0)), (.sc (.slice none 0 0)), (.sc (.slice none 0 0)), (.sc (.slice none 0 0))] [(0, 2, (.v 20)), (2, 2, (.v 22))]⟩,
  ⟨some 24, none, none, .objs [], .mv (.c (.sc (.int .i64 0)))⟩])) <| mkC [2, 8, 9, 23, 24] <|
  .block 0 (.loop (some [2, 8, 9, 23, 24]) il3l0)) <|
  .seq (.ops ([
  ⟨some 86, none, none, .objs [], .ld true 9 (.v 8)⟩,
  ⟨some 16, none, none, .objs [], .nw 9 (.agg [(.sc (.int .i64 0)), (.sc (.int .i64 0)), (.sc (.int .i64 0)), (.sc (.int .i64 0)), (.sc (.int .i64 0)), (.sc (.int .i64 0)), (.sc (.int .i64 0)), (.sc (.int .i64 0)), (.sc (.int .i64 0))])⟩,
  ⟨none, none, none, .objs [], .st 9 (.v 16) (.v 86)⟩])) <|
  .seq (.ops ([
  ⟨some 87, none, none, .objs [], .fa 8 (.v 9)⟩,
  ⟨some 88, none, none, .objs [], .ld false 1 (.v 87)⟩,
  ⟨some 89, none, none, .objs [], .fa 8 (.v 16)⟩,
  ⟨none, none, none, .objs [], .st 1 (.v 89) (.v 88)⟩])) <|
  .seq (.opsD [(2, 3), (2, 4), (10, 11), (10, 12)] ([
  ⟨some 90, none, none, .objs [(.v 8)], .ld true 9 (.v 8)⟩,
  ⟨some 91, none, none, .objs [(.v 9)], .ld true 9 (.v 9)⟩,
  ⟨some 92, none, none, .cal (.c (.fn (.func 18) [] [])) [(.v 90), (.v 91)], .call (.c (.fn (.func 18) [] [])) [(.v 90), (.v 91)]⟩,
  ⟨some 93, none, none, .objs [(.v 8)], .ld true 9 (.v 8)⟩,
  ⟨some 94, none, none, .objs [(.v 9)], .ld true 9 (.v 9)⟩,
  ⟨some 95, none, none, .cal (.c (.fn (.func 19) [] [])) [(.v 93), (.v 94)], .call (.c (.fn (.func 19) [] [])) [(.v 93), (.v 94)]⟩,
  ⟨some 96, none, none, .objs [], .bin .eql false (.v 92) (.v 95)⟩] ++ mkL [8, 16, 96] ([
  ⟨some 97, none, none, .objs [], .mv (.v 96)⟩,
  ⟨some 98, some (97, true), none, .objs [(.v 8)], .ld true 9 (.v 8)⟩,
  ⟨some 99, some (97, true), none, .objs [(.v 16)], .ld true 9 (.v 16)⟩,
  ⟨some 100, some (97, true), none, .cal (.c (.fn (.func 18) [] [])) [(.v 98), (.v 99)], .call (.c (.fn (.func 18) [] [])) [(.v 98), (.v 99)]⟩,
  ⟨some 101, some (97, true), none, .objs [(.v 8)], .ld true 9 (.v 8)⟩,
  ⟨some 102, some (97, true), none, .objs [(.v 16)], .ld true 9 (.v 16)⟩,
  ⟨some 103, some (97, true), none, .cal (.c (.fn (.func 19) [] [])) [(.v 101), (.v 102)], .call (.c (.fn (.func 19) [] [])) [(.v 101), (.v 102)]⟩,
  ⟨some 104, some (97, true), none, .objs [], .bin .eql false (.v 100) (.v 103)⟩,
  ⟨some 105, none, none, .objs [], .pk (.v 97) (.v 104) (.c (.sc (.bool false)))⟩,
  ⟨some 10, none, none, .objs [], .mv (.v 105)⟩]))) <|
  .ret

theorem il3_eq : cFn Try.prog pol 3 = some ⟨106, il3c, [(10, none)]⟩ := by kernel_rfl
theorem raw3_13_5 {e : FEnv} {h : Heap} : iStep Try.prog pol 3 e h (.raw (opOf Try.prog 3 13 5)) = vOf h (binE Try.prog true 33 (.tmp 64) (.tmp 65) (Src.get e (.v 64)) (Src.get e (.v 65))) := raw_neq (x := (.tmp 64)) (y := (.tmp 65)) (s := 33) (by kernel_rfl)
theorem raw3_16_5 {e : FEnv} {h : Heap} : iStep Try.prog pol 3 e h (.raw (opOf Try.prog 3 16 5)) = vOf h (binE Try.prog true 33 (.tmp 81) (.tmp 82) (Src.get e (.v 81)) (Src.get e (.v 82))) := raw_neq (x := (.tmp 81)) (y := (.tmp 82)) (s := 33) (by kernel_rfl)
theorem raw3_10_7 {e : FEnv} {h : Heap} : iStep Try.prog pol 3 e h (.raw (opOf Try.prog 3 10 7)) = vOf h (binE Try.prog true 33 (.tmp 52) (.tmp 55) (Src.get e (.v 52)) (Src.get e (.v 55))) := raw_neq (x := (.tmp 52)) (y := (.tmp 55)) (s := 33) (by kernel_rfl)

noncomputable def il4l0b : C :=
  .seq (.ops ([
  ⟨some 46, none, none, .objs [], .bin .lss false (.v 45) (.v 44)⟩])) <|
  .seq (.cond (.v 46) (.nop) (.exit 2)) <|
  .seq (.block 3 (.seq (.ops ([
    ⟨some 47, none, none, .objs [], .mv (.v 45)⟩,
    ⟨some 12, none, none, .objs [], .mv (.v 47)⟩])) <|
    .seq (.ops ([
    ⟨some 49, none, none, .objs [], .ld true 2 (.v 7)⟩,
    ⟨some 50, none, none, .objs [], .mv (.v 11)⟩,
    ⟨some 51, none, none, .objs [], .mv (.v 12)⟩,
    ⟨some 52, none, none, .objs [], .call (.c (.fn (.func 24) [] [])) [(.v 49), (.v 50), (.v 51)]⟩,
    ⟨some 48, none, none, .objs [], .mv (.v 52)⟩,
    ⟨some 53, none, none, .objs [], .ex (.v 48) 0⟩,
    ⟨some 54, none, none, .objs [], .ex (.v 48) 1⟩,
    ⟨some 13, none, none, .objs [], .mv (.v 53)⟩,
    ⟨some 14, none, none, .objs [], .mv (.v 54)⟩])) <|
    .seq (.ops ([
    ⟨some 55, none, none, .objs [], .mv (.v 14)⟩,
    ⟨some 56, none, none, .objs [], .bin .neq false (.v 55) (.c (.sc (.int .i64 0)))⟩] ++ mkL [2, 7, 8, 11, 12, 13, 39, 40, 44, 45, 56] ([
    ⟨some 57, none, none, .objs [], .mv (.v 56)⟩,
    ⟨some 58, some (57, false), none, .objs [], .mv (.v 13)⟩,
    ⟨some 59, some (57, false), none, .objs [], .ld true 2 (.v 7)⟩,
    ⟨some 60, some (57, false), none, .objs [], .mv (.v 11)⟩,
    ⟨some 61, some (57, false), none, .objs [], .mv (.v 12)⟩,
    ⟨some 62, some (57, false), none, .objs [], .call (.c (.fn (.func 26) [] [])) [(.v 59), (.v 60), (.v 61)]⟩,
    ⟨some 63, some (57, false), none, .objs [], .call (.c (.fn (.func 25) [] [])) [(.v 58), (.v 62)]⟩,
    ⟨some 64, some (57, false), none, .objs [], .nt (.v 63)⟩,
    ⟨some 65, none, none, .objs [], .pk (.v 57) (.c (.sc (.bool true))) (.v 64)⟩]))) <|
    .cond (.v 65) (.seq (.ops ([
      ⟨some 6, none, none, .objs [], .mv (.c (.sc (.bool false)))⟩])) <|
      .ret) (.nop))) <|
  .ops ([
  ⟨some 66, none, none, .objs [], .bin .add false (.v 45) (.c (.sc (.int .i64 1)))⟩,
  ⟨some 45, none, none, .objs [], .mv (.v 66)⟩])
noncomputable def il4l0 : C := il4l0b
theorem il4l0_go {P : Program} {pol : Pol} {K : Oracle} {I : Inl} {n : Nat} {f : FuncId} {R : Xit → FEnv → Heap → Prop} {e : FEnv} {h : Heap} : wc P pol K I n f il4l0 R e h = wc P pol K I n f il4l0b R e h := (fun x => x) rfl

noncomputable def il4l1b : C :=
  .seq (.ops ([
  ⟨some 41, none, none, .objs [], .bin .lss false (.v 40) (.c (.sc (.int .i64 2)))⟩])) <|
  .seq (.cond (.v 41) (.nop) (.exit 0)) <|
  .seq (.block 1 (.seq (.ops ([
    ⟨some 42, none, none, .objs [], .ixA false 1 2 1 (.v 39) (.v 40)⟩,
    ⟨some 11, none, none, .objs [], .mv (.v 42)⟩])) <|
    .seq (.ops ([
    ⟨some 43, none, none, .objs [], .mv (.v 11)⟩,
    ⟨some 44, none, none, .objs [], .lenS (.v 43)⟩,
    ⟨some 45, none, none, .objs [], .mv (.c (.sc (.int .i64 0)))⟩])) <|
    .block 2 (.loop (some [2, 7, 8, 11, 39, 40, 44, 45]) il4l0))) <|
  .ops ([
  ⟨some 67, none, none, .objs [], .bin .add false (.v 40) (.c (.sc (.int .i64 1)))⟩,
  ⟨some 40, none, none, .objs [], .mv (.v 67)⟩])
noncomputable def il4l1 : C := il4l1b
theorem il4l1_go {P : Program} {pol : Pol} {K : Oracle} {I : Inl} {n : Nat} {f : FuncId} {R : Xit → FEnv → Heap → Prop} {e : FEnv} {h : Heap} : wc P pol K I n f il4l1 R e h = wc P pol K I n f il4l1b R e h := (fun x => x) rfl

/-- isochron/isochronlaw11.ElectVectors -/
noncomputable def il4c : C :=
  .seq (.ops ([
  ⟨some 3, none, none, .objs [], .bx false (.v 0)⟩,
  ⟨some 6, none, none, .objs [], .mv (.c (.sc (.bool false)))⟩])) <|
  .seq (.seq (.ops ([
  ⟨some 17, none, none, .objs [], .call (.c (.fn (.func 11) [] [])) []⟩,
  ⟨some 18, none, none, .objs [], .nt (.v 17)⟩])) <|
  .cond (.v 18) (.seq (.ops ([
    ⟨some 6, none, none, .objs [], .mv (.c (.sc (.bool false)))⟩])) <|
    .ret) (.nop)) <|
  .seq (.ops ([
  ⟨some 19, none, none, .objs [], .ld true 4 (.v 3)⟩,
  ⟨some 20, none, none, .objs [], .call (.c (.fn (.func 13) [] [])) [(.v 19)]⟩,
  ⟨some 7, none, none, .objs [], .nw 2 (.agg [(.sc (.slice none 0 0)), (.sc (.slice none 0 0))])⟩,
  ⟨none, none, none, .objs [], .st 2 (.v 7) (.v 20)⟩])) <|
  .seq (.ops ([
  ⟨some 22, none, none, .objs [], .ld true 2 (.v 7)⟩,
  ⟨some 23, none, none, .objs [], .call (.c (.fn (.func 20) [] [])) [(.v 22)]⟩,
  ⟨some 21, none, none, .objs [], .mv (.v 23)⟩,
  ⟨some 24, none, none, .objs [], .ex (.v 21) 0⟩,
  ⟨some 25, none, none, .objs [], .ex (.v 21) 1⟩] ++ mkL [1, 2, 7, 24, 25] ([
  ⟨some 8, none, none, .objs [], .mv (.v 24)⟩,
  ⟨some 9, none, none, .objs [], .mv (.v 25)⟩]))) <|
  .seq (.seq (.ops ([
  ⟨some 26, none, none, .objs [], .mv (.v 9)⟩,
  ⟨some 27, none, none, .objs [], .bin .neq false (.v 26) (.c (.sc (.int .i64 0)))⟩,
  ⟨some 28, none, none, .objs [], .mv (.v 27)⟩,
  ⟨some 29, some (28, false), none, .objs [], .mv (.v 8)⟩,
  ⟨some 30, some (28, false), none, .objs [], .ld true 2 (.v 7)⟩,
  ⟨some 31, some (28, false), none, .objs [], .call (.c (.fn (.func 22) [] [])) [(.v 30)]⟩,
  ⟨some 32, some (28, false), none, .objs [], .call (.c (.fn (.func 21) [] [])) [(.v 29), (.v 31)]⟩,
  ⟨some 33, some (28, false), none, .objs [], .nt (.v 32)⟩,
  ⟨some 34, none, none, .objs [], .pk (.v 28) (.c (.sc (.bool true))) (.v 33)⟩])) <|
  .cond (.v 34) (.seq (.ops ([
    ⟨some 6, none, none, .objs [], .mv (.c (.sc (.bool false)))⟩])) <|
    .ret) (.nop)) <|
  .seq (.seq (.ops ([
  ⟨some 35, none, none, .objs [], .mv (.v 8)⟩,
  ⟨some 36, none, none, .objs [], .ld true 2 (.v 7)⟩] ++ mkL [1, 2, 7, 8, 35, 36] ([
  ⟨some 37, none, none, .objs [], .mv (.v 1)⟩,
  ⟨some 38, none, none, .objs [], .call (.c (.fn (.func 23) [] [])) [(.v 36), (.v 37)]⟩,
  ⟨some 39, none, none, .objs [], .bd [(.sc (.slice none 0 0)), (.sc (.slice none 0 0))] [(0, 1, (.v 35)), (1, 1, (.v 38))]⟩,
  ⟨some 40, none, none, .objs [], .mv (.c (.sc (.int .i64 0)))⟩]))) <|
  .block 0 (.loop (some [2, 7, 8, 39, 40]) il4l1)) <|
  .seq (.ops ([
  ⟨some 69, none, none, .objs [], .ld true 2 (.v 7)⟩,
  ⟨some 70, none, none, .objs [], .mv (.v 8)⟩,
  ⟨some 71, none, none, .objs [], .mv (.v 2)⟩,
  ⟨some 72, none, none, .objs [], .call (.c (.fn (.func 24) [] [])) [(.v 69), (.v 70), (.v 71)]⟩,
  ⟨some 68, none, none, .objs [], .mv (.v 72)⟩,
  ⟨some 73, none, none, .objs [], .ex (.v 68) 0⟩,
  ⟨some 74, none, none, .objs [], .ex (.v 68) 1⟩,
  ⟨some 15, none, none, .objs [], .mv (.v 73)⟩,
  ⟨some 16, none, none, .objs [], .mv (.v 74)⟩])) <|
  .seq (.ops ([
  ⟨some 75, none, none, .objs [], .mv (.v 16)⟩,
  ⟨some 76, none, none, .objs [], .bin .eql false (.v 75) (.c (.sc (.int .i64 0)))⟩,
  ⟨some 77, none, none, .objs [], .mv (.v 2)⟩,
  ⟨some 78, none, none, .objs [], .bin .geq false (.v 77) (.c (.sc (.int .i64 0)))⟩,
  ⟨some 79, none, none, .objs [], .mv (.v 78)⟩] ++ mkL [2, 8, 15, 16, 76, 79] ([
  ⟨some 80, some (79, true), none, .objs [], .mv (.v 2)⟩,
  ⟨some 81, some (79, true), none, .objs [], .mv (.v 8)⟩,
  ⟨some 82, some (79, true), none, .objs [], .lenS (.v 81)⟩,
  ⟨some 83, some (79, true), none, .objs [], .bin .lss false (.v 80) (.v 82)⟩,
  ⟨some 84, none, none, .objs [], .pk (.v 79) (.v 83) (.c (.sc (.bool false)))⟩,
  ⟨some 85, none, none, .objs [], .bin .eql true (.v 76) (.v 84)⟩,
  ⟨some 86, none, none, .objs [], .mv (.v 85)⟩,
  ⟨some 87, some (86, true), none, .objs [], .mv (.v 16)⟩,
  ⟨some 88, some (86, true), none, .objs [], .bin .eql false (.v 87) (.c (.sc (.int .i64 0)))⟩,
  ⟨some 89, some (86, true), none, .objs [], .mv (.v 88)⟩,
  ⟨some 90, some (89, false), none, .objs [], .mv (.v 16)⟩,
  ⟨some 91, some (89, false), none, .objs [], .bin .eql false (.v 90) (.c (.sc (.int .i64 2)))⟩,
  ⟨some 92, some (89, false), none, .objs [], .mv (.v 91)⟩,
  ⟨some 93, some (92, true), none, .objs [], .mv (.v 15)⟩] ++ mkL [86, 89, 92, 93] ([
  ⟨some 94, some (92, true), none, .objs [], .lenS (.v 93)⟩,
  ⟨some 95, some (92, true), none, .objs [], .bin .eql false (.v 94) (.c (.sc (.int .i64 0)))⟩,
  ⟨some 96, some (89, false), none, .objs [], .pk (.v 92) (.v 95) (.c (.sc (.bool false)))⟩,
  ⟨some 97, some (86, true), none, .objs [], .pk (.v 89) (.c (.sc (.bool true))) (.v 96)⟩,
  ⟨some 98, none, none, .objs [], .pk (.v 86) (.v 97) (.c (.sc (.bool false)))⟩,
  ⟨some 6, none, none, .objs [], .mv (.v 98)⟩])))) <|
  .ret

theorem il4_eq : cFn Try.prog pol 4 = some ⟨99, il4c, [(6, none)]⟩ := by kernel_rfl

noncomputable def il5l0b : C :=
  .seq (.ops ([
  ⟨some 30, none, none, .objs [], .bin .lss false (.v 29) (.v 28)⟩])) <|
  .seq (.cond (.v 30) (.nop) (.exit 0)) <|
  .seq (.block 1 (.seq (.ops ([
    ⟨some 32, none, none, .objs [], .ld true 2 (.v 7)⟩,
    ⟨some 33, none, none, .objs [], .mv (.v 10)⟩,
    ⟨some 34, none, none, .objs [], .call (.c (.fn (.func 27) [] [])) [(.v 32), (.v 33)]⟩,
    ⟨some 31, none, none, .objs [], .mv (.v 34)⟩,
    ⟨some 35, none, none, .objs [], .ex (.v 31) 0⟩,
    ⟨some 36, none, none, .objs [], .ex (.v 31) 1⟩,
    ⟨some 10, none, none, .objs [], .mv (.v 35)⟩,
    ⟨some 9, none, none, .objs [], .mv (.v 36)⟩])) <|
    .seq (.ops ([
    ⟨some 37, none, none, .objs [], .mv (.v 9)⟩,
    ⟨some 38, none, none, .objs [], .bin .neq false (.v 37) (.c (.sc (.int .i64 0)))⟩])) <|
    .cond (.v 38) (.seq (.ops ([
      ⟨some 6, none, none, .objs [], .mv (.c (.sc (.bool false)))⟩])) <|
      .ret) (.nop))) <|
  .ops ([
  ⟨some 39, none, none, .objs [], .bin .add false (.v 29) (.c (.sc (.int .i64 1)))⟩,
  ⟨some 29, none, none, .objs [], .mv (.v 39)⟩])
noncomputable def il5l0 : C := il5l0b
theorem il5l0_go {P : Program} {pol : Pol} {K : Oracle} {I : Inl} {n : Nat} {f : FuncId} {R : Xit → FEnv → Heap → Prop} {e : FEnv} {h : Heap} : wc P pol K I n f il5l0 R e h = wc P pol K I n f il5l0b R e h := (fun x => x) rfl

/-- isochron/isochronlaw11.ElectSettles -/
noncomputable def il5c : C :=
  .seq (.ops ([
  ⟨some 3, none, none, .objs [], .bx false (.v 0)⟩,
  ⟨some 6, none, none, .objs [], .mv (.c (.sc (.bool false)))⟩])) <|
  .seq (.seq (.ops ([
  ⟨some 11, none, none, .objs [], .call (.c (.fn (.func 11) [] [])) []⟩,
  ⟨some 12, none, none, .objs [], .nt (.v 11)⟩])) <|
  .cond (.v 12) (.seq (.ops ([
    ⟨some 6, none, none, .objs [], .mv (.c (.sc (.bool false)))⟩])) <|
    .ret) (.nop)) <|
  .seq (.ops ([
  ⟨some 13, none, none, .objs [], .ld true 4 (.v 3)⟩,
  ⟨some 14, none, none, .objs [], .call (.c (.fn (.func 13) [] [])) [(.v 13)]⟩,
  ⟨some 7, none, none, .objs [], .nw 2 (.agg [(.sc (.slice none 0 0)), (.sc (.slice none 0 0))])⟩,
  ⟨none, none, none, .objs [], .st 2 (.v 7) (.v 14)⟩])) <|
  .seq (.ops ([
  ⟨some 16, none, none, .objs [], .ld true 2 (.v 7)⟩,
  ⟨some 17, none, none, .objs [], .call (.c (.fn (.func 20) [] [])) [(.v 16)]⟩,
  ⟨some 15, none, none, .objs [], .mv (.v 17)⟩,
  ⟨some 18, none, none, .objs [], .ex (.v 15) 0⟩,
  ⟨some 19, none, none, .objs [], .ex (.v 15) 1⟩] ++ mkL [1, 2, 7, 18, 19] ([
  ⟨some 8, none, none, .objs [], .mv (.v 18)⟩,
  ⟨some 9, none, none, .objs [], .mv (.v 19)⟩]))) <|
  .seq (.ops ([
  ⟨some 20, none, none, .objs [], .ld true 2 (.v 7)⟩,
  ⟨some 21, none, none, .objs [], .mv (.v 1)⟩,
  ⟨some 22, none, none, .objs [], .call (.c (.fn (.func 23) [] [])) [(.v 20), (.v 21)]⟩,
  ⟨some 10, none, none, .objs [], .mv (.v 22)⟩])) <|
  .seq (.seq (.ops ([
  ⟨some 23, none, none, .objs [], .mv (.v 9)⟩,
  ⟨some 24, none, none, .objs [], .bin .neq false (.v 23) (.c (.sc (.int .i64 0)))⟩])) <|
  .cond (.v 24) (.seq (.ops ([
    ⟨some 6, none, none, .objs [], .mv (.c (.sc (.bool false)))⟩])) <|
    .ret) (.nop)) <|
  .seq (.seq (.ops ([
  ⟨some 25, none, none, .objs [], .mv (.v 2)⟩,
  ⟨some 26, none, none, .objs [], .bin .rem false (.v 25) (.c (.sc (.int .u8 3)))⟩,
  ⟨some 27, none, none, .objs [], .cv .i64 (.v 26)⟩,
  ⟨some 28, none, none, .objs [], .bin .add false (.c (.sc (.int .i64 24))) (.v 27)⟩,
  ⟨some 29, none, none, .objs [], .mv (.c (.sc (.int .i64 0)))⟩])) <| mkC [7, 8, 10, 28, 29] <|
  .block 0 (.loop (some [7, 8, 10, 28, 29]) il5l0)) <|
  .seq (.ops ([
  ⟨some 40, none, none, .objs [], .mv (.v 10)⟩,
  ⟨some 41, none, none, .objs [], .mv (.v 8)⟩,
  ⟨some 42, none, none, .objs [], .call (.c (.fn (.func 21) [] [])) [(.v 40), (.v 41)]⟩,
  ⟨some 6, none, none, .objs [], .mv (.v 42)⟩])) <|
  .ret

theorem il5_eq : cFn Try.prog pol 5 = some ⟨43, il5c, [(6, none)]⟩ := by kernel_rfl

noncomputable def il6l0b : C :=
  .seq (.seq (.ops ([
  ⟨some 49, none, none, .objs [], .mv (.v 9)⟩,
  ⟨some 50, none, none, .objs [], .bin .gtr false (.v 49) (.c (.sc (.int .i64 0)))⟩])) <|
  .cond (.v 50) (.nop) (.exit 2)) <|
  .seq (.block 3 (.seq (.ops ([
    ⟨some 53, none, none, .objs [], .mv (.v 4)⟩,
    ⟨some 54, none, none, .objs [], .mv (.v 8)⟩,
    ⟨some 55, none, none, .objs [], .iaS 9 (.v 53) (.v 54)⟩,
    ⟨some 56, none, none, .objs [], .ld true 9 (.v 55)⟩,
    ⟨some 10, none, none, .objs [], .nw 9 (.agg [(.sc (.int .i64 0)), (.sc (.int .i64 0)), (.sc (.int .i64 0)), (.sc (.int .i64 0)), (.sc (.int .i64 0)), (.sc (.int .i64 0)), (.sc (.int .i64 0)), (.sc (.int .i64 0)), (.sc (.int .i64 0))])⟩,
    ⟨none, none, none, .objs [], .st 9 (.v 10) (.v 56)⟩])) <|
    .seq (.seq (.ops ([
    ⟨some 57, none, none, .objs [], .fa 0 (.v 10)⟩,
    ⟨some 58, none, none, .objs [], .ld true 6 (.v 57)⟩,
    ⟨some 59, none, none, .objs [], .fa 0 (.v 7)⟩,
    ⟨some 60, none, none, .objs [], .ld true 6 (.v 59)⟩,
    ⟨some 61, none, none, .objs [], .raw (opOf Try.prog 6 15 4)⟩,
    ⟨some 62, none, none, .objs [], .mv (.v 61)⟩] ++ mkL [3, 4, 6, 7, 8, 9, 10, 39, 40, 41, 62] ([
    ⟨some 63, some (62, false), none, .objs [], .fa 6 (.v 10)⟩,
    ⟨some 64, some (62, false), none, .objs [], .ld false 1 (.v 63)⟩,
    ⟨some 65, some (62, false), none, .objs [], .mv (.v 9)⟩,
    ⟨some 66, some (62, false), none, .objs [], .bin .neq false (.v 64) (.v 65)⟩,
    ⟨some 67, none, none, .objs [], .pk (.v 62) (.c (.sc (.bool true))) (.v 66)⟩,
    ⟨some 68, none, none, .objs [], .mv (.v 67)⟩,
    ⟨some 69, some (68, false), none, .objs [], .fa 8 (.v 10)⟩,
    ⟨some 70, some (68, false), none, .objs [], .ld false 1 (.v 69)⟩,
    ⟨some 71, some (68, false), none, .objs [], .bin .lss false (.v 70) (.c (.sc (.int .i64 0)))⟩,
    ⟨some 72, none, none, .objs [], .pk (.v 68) (.c (.sc (.bool true))) (.v 71)⟩,
    ⟨some 73, none, none, .objs [], .mv (.v 72)⟩,
    ⟨some 74, some (73, false), none, .objs [], .fa 8 (.v 10)⟩,
    ⟨some 75, some (73, false), none, .objs [], .ld false 1 (.v 74)⟩,
    ⟨some 76, some (73, false), none, .objs [], .fa 1 (.v 3)⟩] ++ mkL [3, 4, 6, 7, 8, 9, 10, 39, 40, 41, 73, 75, 76] ([
    ⟨some 77, some (73, false), none, .objs [], .ld false 1 (.v 76)⟩,
    ⟨some 78, some (73, false), none, .objs [], .lenS (.v 77)⟩,
    ⟨some 79, some (73, false), none, .objs [], .bin .geq false (.v 75) (.v 78)⟩,
    ⟨some 80, none, none, .objs [], .pk (.v 73) (.c (.sc (.bool true))) (.v 79)⟩,
    ⟨some 81, none, none, .objs [], .mv (.v 80)⟩,
    ⟨some 82, some (81, false), none, .objs [], .fa 7 (.v 10)⟩,
    ⟨some 83, some (81, false), none, .objs [], .ld false 1 (.v 82)⟩,
    ⟨some 84, some (81, false), none, .objs [], .bin .lss false (.v 83) (.c (.sc (.int .i64 0)))⟩,
    ⟨some 85, none, none, .objs [], .pk (.v 81) (.c (.sc (.bool true))) (.v 84)⟩,
    ⟨some 86, none, none, .objs [], .mv (.v 85)⟩,
    ⟨some 87, some (86, false), none, .objs [], .fa 7 (.v 10)⟩,
    ⟨some 88, some (86, false), none, .objs [], .ld false 1 (.v 87)⟩,
    ⟨some 89, some (86, false), none, .objs [], .mv (.v 4)⟩,
    ⟨some 90, some (86, false), none, .objs [], .lenS (.v 89)⟩] ++ mkL [3, 4, 6, 7, 8, 9, 10, 39, 40, 41, 86, 88, 90] ([
    ⟨some 91, some (86, false), none, .objs [], .bin .geq false (.v 88) (.v 90)⟩,
    ⟨some 92, none, none, .objs [], .pk (.v 86) (.c (.sc (.bool true))) (.v 91)⟩]))))) <|
    .cond (.v 92) (.seq (.ops ([
      ⟨some 2, none, none, .objs [], .mv (.c (.sc (.bool false)))⟩])) <|
      .ret) (.nop)) <|
    .seq (.seq (.ops ([
    ⟨some 93, none, none, .objs [], .fa 1 (.v 3)⟩,
    ⟨some 94, none, none, .objs [], .ld false 1 (.v 93)⟩,
    ⟨some 95, none, none, .objs [], .fa 8 (.v 10)⟩,
    ⟨some 96, none, none, .objs [], .ld false 1 (.v 95)⟩,
    ⟨some 97, none, none, .objs [], .iaS 2 (.v 94) (.v 96)⟩,
    ⟨some 98, none, none, .objs [], .ld true 2 (.v 97)⟩,
    ⟨some 11, none, none, .objs [], .nw 2 (.agg [(.sc (.int .i64 0)), (.sc (.int .i64 0))])⟩,
    ⟨none, none, none, .objs [], .st 2 (.v 11) (.v 98)⟩])) <|
    .seq (.ops ([
    ⟨some 99, none, none, .objs [], .ld true 2 (.v 11)⟩,
    ⟨some 100, none, none, .objs [], .mv (.v 8)⟩,
    ⟨some 101, none, none, .objs [], .fa 7 (.v 10)⟩] ++ mkL [3, 4, 6, 7, 8, 9, 10, 11, 39, 40, 41, 99, 100, 101] ([
    ⟨some 102, none, none, .objs [], .ld false 1 (.v 101)⟩,
    ⟨some 103, none, none, .objs [], .bd [(.sc (.int .i64 0)), (.sc (.int .i64 0))] [(0, 1, (.v 100)), (1, 1, (.v 102))]⟩,
    ⟨some 104, none, none, .objs [], .raw (opOf Try.prog 6 18 5)⟩,
    ⟨some 105, none, none, .objs [], .mv (.v 104)⟩,
    ⟨some 106, some (105, true), none, .objs [], .ld true 2 (.v 11)⟩,
    ⟨some 107, some (105, true), none, .objs [], .fa 7 (.v 10)⟩,
    ⟨some 108, some (105, true), none, .objs [], .ld false 1 (.v 107)⟩,
    ⟨some 109, some (105, true), none, .objs [], .mv (.v 8)⟩,
    ⟨some 110, some (105, true), none, .objs [], .bd [(.sc (.int .i64 0)), (.sc (.int .i64 0))] [(0, 1, (.v 108)), (1, 1, (.v 109))]⟩,
    ⟨some 111, some (105, true), none, .objs [], .raw (opOf Try.prog 6 18 12)⟩,
    ⟨some 112, none, none, .objs [], .pk (.v 105) (.v 111) (.c (.sc (.bool false)))⟩]))) <|
    .cond (.v 112) (.seq (.ops ([
      ⟨some 2, none, none, .objs [], .mv (.c (.sc (.bool false)))⟩])) <|
      .ret) (.nop)) <|
    .ops ([
    ⟨some 113, none, none, .objs [], .fa 7 (.v 10)⟩,
    ⟨some 114, none, none, .objs [], .ld false 1 (.v 113)⟩] ++ mkL [3, 4, 6, 7, 9, 39, 40, 41, 114] ([
    ⟨some 8, none, none, .objs [], .mv (.v 114)⟩])))) <|
  .ops ([
  ⟨some 51, none, none, .objs [], .mv (.v 9)⟩,
  ⟨some 52, none, none, .objs [], .bin .sub false (.v 51) (.c (.sc (.int .i64 1)))⟩,
  ⟨some 9, none, none, .objs [], .mv (.v 52)⟩])
noncomputable def il6l0 : C := il6l0b
theorem il6l0_go {P : Program} {pol : Pol} {K : Oracle} {I : Inl} {n : Nat} {f : FuncId} {R : Xit → FEnv → Heap → Prop} {e : FEnv} {h : Heap} : wc P pol K I n f il6l0 R e h = wc P pol K I n f il6l0b R e h := (fun x => x) rfl

noncomputable def il6l1b : C :=
  .seq (.ops ([
  ⟨some 42, none, none, .objs [], .bin .lss false (.v 41) (.v 40)⟩])) <|
  .seq (.cond (.v 42) (.nop) (.exit 0)) <|
  .seq (.block 1 (.seq (.ops ([
    ⟨some 43, none, none, .objs [], .mv (.v 41)⟩,
    ⟨some 44, none, none, .objs [], .iaS 9 (.v 39) (.v 41)⟩,
    ⟨some 45, none, none, .objs [], .ld true 9 (.v 44)⟩,
    ⟨some 7, none, none, .objs [], .nw 9 (.agg [(.sc (.int .i64 0)), (.sc (.int .i64 0)), (.sc (.int .i64 0)), (.sc (.int .i64 0)), (.sc (.int .i64 0)), (.sc (.int .i64 0)), (.sc (.int .i64 0)), (.sc (.int .i64 0)), (.sc (.int .i64 0))])⟩,
    ⟨some 6, none, none, .objs [], .mv (.v 43)⟩,
    ⟨none, none, none, .objs [], .st 9 (.v 7) (.v 45)⟩])) <|
    .seq (.ops ([
    ⟨some 46, none, none, .objs [], .mv (.v 6)⟩,
    ⟨some 8, none, none, .objs [], .mv (.v 46)⟩])) <|
    .seq (.seq (.ops ([
    ⟨some 47, none, none, .objs [], .fa 6 (.v 7)⟩,
    ⟨some 48, none, none, .objs [], .ld false 1 (.v 47)⟩,
    ⟨some 9, none, none, .objs [], .mv (.v 48)⟩])) <|
    .block 2 (.loop (some [3, 4, 6, 7, 8, 9, 39, 40, 41]) il6l0)) <|
    .seq (.ops ([
    ⟨some 116, none, none, .objs [], .ld true 2 (.v 3)⟩,
    ⟨some 117, none, none, .objs [], .mv (.v 8)⟩,
    ⟨some 118, none, none, .objs [], .call (.c (.fn (.func 16) [] [])) [(.v 116), (.v 117)]⟩,
    ⟨some 115, none, none, .objs [], .mv (.v 118)⟩,
    ⟨some 119, none, none, .objs [], .ex (.v 115) 0⟩,
    ⟨some 120, none, none, .objs [], .ex (.v 115) 1⟩,
    ⟨some 12, none, none, .objs [], .nw 9 (.agg [(.sc (.int .i64 0)), (.sc (.int .i64 0)), (.sc (.int .i64 0)), (.sc (.int .i64 0)), (.sc (.int .i64 0)), (.sc (.int .i64 0)), (.sc (.int .i64 0)), (.sc (.int .i64 0)), (.sc (.int .i64 0))])⟩,
    ⟨none, none, none, .objs [], .st 9 (.v 12) (.v 119)⟩,
    ⟨some 13, none, none, .objs [], .mv (.v 120)⟩])) <|
    .seq (.ops ([
    ⟨some 122, none, none, .objs [], .ld true 2 (.v 3)⟩,
    ⟨some 123, none, none, .objs [], .mv (.v 6)⟩,
    ⟨some 124, none, none, .objs [], .call (.c (.fn (.func 16) [] [])) [(.v 122), (.v 123)]⟩,
    ⟨some 121, none, none, .objs [], .mv (.v 124)⟩,
    ⟨some 125, none, none, .objs [], .ex (.v 121) 0⟩] ++ mkL [3, 4, 6, 7, 8, 12, 13, 39, 40, 41, 121, 125] ([
    ⟨some 126, none, none, .objs [], .ex (.v 121) 1⟩,
    ⟨some 14, none, none, .objs [], .nw 9 (.agg [(.sc (.int .i64 0)), (.sc (.int .i64 0)), (.sc (.int .i64 0)), (.sc (.int .i64 0)), (.sc (.int .i64 0)), (.sc (.int .i64 0)), (.sc (.int .i64 0)), (.sc (.int .i64 0)), (.sc (.int .i64 0))])⟩,
    ⟨none, none, none, .objs [], .st 9 (.v 14) (.v 125)⟩,
    ⟨some 15, none, none, .objs [], .mv (.v 126)⟩]))) <|
    .seq (.opsD [] ([
    ⟨some 127, none, none, .objs [], .mv (.v 13)⟩,
    ⟨some 128, none, none, .objs [], .bin .neq false (.v 127) (.c (.sc (.int .i64 0)))⟩,
    ⟨some 129, none, none, .objs [], .mv (.v 128)⟩,
    ⟨some 130, some (129, false), none, .objs [], .mv (.v 15)⟩,
    ⟨some 131, some (129, false), none, .objs [], .bin .neq false (.v 130) (.c (.sc (.int .i64 0)))⟩,
    ⟨some 132, none, none, .objs [], .pk (.v 129) (.c (.sc (.bool true))) (.v 131)⟩,
    ⟨some 133, none, none, .objs [], .mv (.v 132)⟩,
    ⟨some 134, some (133, false), none, .objs [], .mv (.v 4)⟩,
    ⟨some 135, some (133, false), none, .objs [], .mv (.v 8)⟩,
    ⟨some 136, some (133, false), none, .objs [], .iaS 9 (.v 134) (.v 135)⟩] ++ mkL [3, 4, 6, 7, 12, 14, 39, 40, 41, 133, 136] ([
    ⟨some 137, some (133, false), none, .objs [(.v 136)], .ld true 9 (.v 136)⟩,
    ⟨some 138, some (133, false), none, .objs [(.v 12)], .ld true 9 (.v 12)⟩,
    ⟨some 139, some (133, false), none, .objs [], .raw (opOf Try.prog 6 23 12)⟩,
    ⟨some 140, none, none, .objs [], .pk (.v 133) (.c (.sc (.bool true))) (.v 139)⟩,
    ⟨some 141, none, none, .objs [], .mv (.v 140)⟩,
    ⟨some 142, some (141, false), none, .objs [], .fa 0 (.v 12)⟩,
    ⟨some 143, some (141, false), none, .objs [(.v 142)], .ld true 6 (.v 142)⟩,
    ⟨some 144, some (141, false), none, .objs [], .fa 0 (.v 7)⟩,
    ⟨some 145, some (141, false), none, .objs [(.v 144)], .ld true 6 (.v 144)⟩,
    ⟨some 146, some (141, false), none, .objs [], .raw (opOf Try.prog 6 23 19)⟩,
    ⟨some 147, none, none, .objs [], .pk (.v 141) (.c (.sc (.bool true))) (.v 146)⟩,
    ⟨some 148, none, none, .objs [], .mv (.v 147)⟩,
    ⟨some 149, some (148, false), none, .objs [(.v 14)], .ld true 9 (.v 14)⟩,
    ⟨some 150, some (148, false), none, .objs [], .fa 0 (.v 7)⟩] ++ mkL [3, 4, 6, 39, 40, 41, 148, 149, 150] ([
    ⟨some 151, some (148, false), none, .objs [(.v 150)], .ld true 6 (.v 150)⟩,
    ⟨some 152, some (148, false), none, .objs [], .mv (.v 6)⟩,
    ⟨some 153, some (148, false), none, .objs [], .bd [(.sc (.int .i64 0)), (.sc (.int .i64 0)), (.sc (.int .i64 0)), (.sc (.int .i64 0)), (.sc (.int .i64 0)), (.sc (.int .i64 0)), (.sc (.int .i64 0)), (.sc (.int .i64 0)), (.sc (.int .i64 0))] [(0, 6, (.v 151)), (7, 1, (.v 152)), (8, 1, (.c (.sc (.int .i64 (-1)))))]⟩,
    ⟨some 154, some (148, false), none, .cal (.c (.fn (.func 18) [] [])) [(.v 149), (.v 153)], .call (.c (.fn (.func 18) [] [])) [(.v 149), (.v 153)]⟩,
    ⟨some 155, some (148, false), none, .objs [], .bin .lss false (.v 154) (.c (.sc (.int .i64 0)))⟩,
    ⟨some 156, none, none, .objs [], .pk (.v 148) (.c (.sc (.bool true))) (.v 155)⟩])))) <|
    .cond (.v 156) (.seq (.ops ([
      ⟨some 2, none, none, .objs [], .mv (.c (.sc (.bool false)))⟩])) <|
      .ret) (.nop))) <|
  .ops ([
  ⟨some 157, none, none, .objs [], .bin .add false (.v 41) (.c (.sc (.int .i64 1)))⟩,
  ⟨some 41, none, none, .objs [], .mv (.v 157)⟩])
noncomputable def il6l1 : C := il6l1b
theorem il6l1_go {P : Program} {pol : Pol} {K : Oracle} {I : Inl} {n : Nat} {f : FuncId} {R : Xit → FEnv → Heap → Prop} {e : FEnv} {h : Heap} : wc P pol K I n f il6l1 R e h = wc P pol K I n f il6l1b R e h := (fun x => x) rfl

noncomputable def il6l2b : C :=
  .seq (.ops ([
  ⟨some 162, none, none, .objs [], .bin .lss false (.v 161) (.v 160)⟩])) <|
  .seq (.cond (.v 162) (.nop) (.exit 4)) <|
  .seq (.block 5 (.seq (.ops ([
    ⟨some 163, none, none, .objs [], .iaS 2 (.v 159) (.v 161)⟩,
    ⟨some 164, none, none, .objs [], .ld true 2 (.v 163)⟩,
    ⟨some 17, none, none, .objs [], .nw 2 (.agg [(.sc (.int .i64 0)), (.sc (.int .i64 0))])⟩,
    ⟨none, none, none, .objs [], .st 2 (.v 17) (.v 164)⟩])) <|
    .seq (.opsD [(2, 10), (4, 10), (7, 10), (9, 10), (2, 11), (4, 11), (7, 11), (9, 11), (7, 12), (9, 12)] ([
    ⟨some 165, none, none, .objs [], .mv (.v 4)⟩,
    ⟨some 166, none, none, .objs [], .iaA 2 1 (.v 17) (.c (.sc (.int .i64 0)))⟩,
    ⟨some 167, none, none, .objs [(.v 166)], .ld false 1 (.v 166)⟩,
    ⟨some 168, none, none, .objs [], .iaS 9 (.v 165) (.v 167)⟩,
    ⟨some 169, none, none, .objs [(.v 168)], .ld true 9 (.v 168)⟩,
    ⟨some 170, none, none, .objs [], .mv (.v 4)⟩,
    ⟨some 171, none, none, .objs [], .iaA 2 1 (.v 17) (.c (.sc (.int .i64 1)))⟩,
    ⟨some 172, none, none, .objs [(.v 171)], .ld false 1 (.v 171)⟩,
    ⟨some 173, none, none, .objs [], .iaS 9 (.v 170) (.v 172)⟩] ++ mkL [4, 159, 160, 161, 169, 173] ([
    ⟨some 174, none, none, .objs [(.v 173)], .ld true 9 (.v 173)⟩,
    ⟨some 18, none, none, .objs [], .nw 9 (.agg [(.sc (.int .i64 0)), (.sc (.int .i64 0)), (.sc (.int .i64 0)), (.sc (.int .i64 0)), (.sc (.int .i64 0)), (.sc (.int .i64 0)), (.sc (.int .i64 0)), (.sc (.int .i64 0)), (.sc (.int .i64 0))])⟩,
    ⟨some 19, none, none, .objs [], .nw 9 (.agg [(.sc (.int .i64 0)), (.sc (.int .i64 0)), (.sc (.int .i64 0)), (.sc (.int .i64 0)), (.sc (.int .i64 0)), (.sc (.int .i64 0)), (.sc (.int .i64 0)), (.sc (.int .i64 0)), (.sc (.int .i64 0))])⟩,
    ⟨none, none, none, .objs [(.v 18)], .st 9 (.v 18) (.v 169)⟩,
    ⟨none, none, none, .objs [(.v 19)], .st 9 (.v 19) (.v 174)⟩]))) <|
    .seq (.ops ([
    ⟨some 175, none, none, .objs [], .fa 0 (.v 18)⟩,
    ⟨some 176, none, none, .objs [], .ld true 6 (.v 175)⟩,
    ⟨some 177, none, none, .objs [], .fa 0 (.v 19)⟩,
    ⟨some 178, none, none, .objs [], .ld true 6 (.v 177)⟩,
    ⟨some 179, none, none, .objs [], .raw (opOf Try.prog 6 30 4)⟩,
    ⟨some 180, none, none, .objs [], .mv (.v 179)⟩,
    ⟨some 181, some (180, false), none, .objs [], .fa 6 (.v 18)⟩,
    ⟨some 182, some (180, false), none, .objs [], .ld false 1 (.v 181)⟩,
    ⟨some 183, some (180, false), none, .objs [], .fa 6 (.v 19)⟩] ++ mkL [4, 18, 19, 159, 160, 161, 180, 182, 183] ([
    ⟨some 184, some (180, false), none, .objs [], .ld false 1 (.v 183)⟩,
    ⟨some 185, some (180, false), none, .objs [], .bin .add false (.v 184) (.c (.sc (.int .i64 1)))⟩,
    ⟨some 186, some (180, false), none, .objs [], .bin .gtr false (.v 182) (.v 185)⟩,
    ⟨some 187, none, none, .objs [], .pk (.v 180) (.c (.sc (.bool true))) (.v 186)⟩,
    ⟨some 188, none, none, .objs [], .mv (.v 187)⟩,
    ⟨some 189, some (188, false), none, .objs [], .fa 6 (.v 19)⟩,
    ⟨some 190, some (188, false), none, .objs [], .ld false 1 (.v 189)⟩,
    ⟨some 191, some (188, false), none, .objs [], .fa 6 (.v 18)⟩,
    ⟨some 192, some (188, false), none, .objs [], .ld false 1 (.v 191)⟩,
    ⟨some 193, some (188, false), none, .objs [], .bin .add false (.v 192) (.c (.sc (.int .i64 1)))⟩,
    ⟨some 194, some (188, false), none, .objs [], .bin .gtr false (.v 190) (.v 193)⟩,
    ⟨some 195, none, none, .objs [], .pk (.v 188) (.c (.sc (.bool true))) (.v 194)⟩]))) <|
    .cond (.v 195) (.seq (.ops ([
      ⟨some 2, none, none, .objs [], .mv (.c (.sc (.bool false)))⟩])) <|
      .ret) (.nop))) <|
  .ops ([
  ⟨some 196, none, none, .objs [], .bin .add false (.v 161) (.c (.sc (.int .i64 1)))⟩] ++ mkL [4, 159, 160, 196] ([
  ⟨some 161, none, none, .objs [], .mv (.v 196)⟩]))
noncomputable def il6l2 : C := il6l2b
theorem il6l2_go {P : Program} {pol : Pol} {K : Oracle} {I : Inl} {n : Nat} {f : FuncId} {R : Xit → FEnv → Heap → Prop} {e : FEnv} {h : Heap} : wc P pol K I n f il6l2 R e h = wc P pol K I n f il6l2b R e h := (fun x => x) rfl

/-- isochron/isochronlaw11.ElectTree -/
noncomputable def il6c : C :=
  .seq (.ops ([
  ⟨some 1, none, none, .objs [], .bx false (.v 0)⟩,
  ⟨some 2, none, none, .objs [], .mv (.c (.sc (.bool false)))⟩])) <|
  .seq (.seq (.ops ([
  ⟨some 20, none, none, .objs [], .call (.c (.fn (.func 11) [] [])) []⟩,
  ⟨some 21, none, none, .objs [], .nt (.v 20)⟩])) <|
  .cond (.v 21) (.seq (.ops ([
    ⟨some 2, none, none, .objs [], .mv (.c (.sc (.bool false)))⟩])) <|
    .ret) (.nop)) <|
  .seq (.ops ([
  ⟨some 22, none, none, .objs [], .ld true 4 (.v 1)⟩,
  ⟨some 23, none, none, .objs [], .call (.c (.fn (.func 13) [] [])) [(.v 22)]⟩,
  ⟨some 3, none, none, .objs [], .nw 2 (.agg [(.sc (.slice none 0 0)), (.sc (.slice none 0 0))])⟩,
  ⟨none, none, none, .objs [], .st 2 (.v 3) (.v 23)⟩])) <|
  .seq (.ops ([
  ⟨some 25, none, none, .objs [], .ld true 2 (.v 3)⟩,
  ⟨some 26, none, none, .objs [], .call (.c (.fn (.func 20) [] [])) [(.v 25)]⟩,
  ⟨some 24, none, none, .objs [], .mv (.v 26)⟩,
  ⟨some 27, none, none, .objs [], .ex (.v 24) 0⟩,
  ⟨some 28, none, none, .objs [], .ex (.v 24) 1⟩] ++ mkL [3, 27, 28] ([
  ⟨some 4, none, none, .objs [], .mv (.v 27)⟩,
  ⟨some 5, none, none, .objs [], .mv (.v 28)⟩]))) <|
  .seq (.seq (.ops ([
  ⟨some 29, none, none, .objs [], .mv (.v 5)⟩,
  ⟨some 30, none, none, .objs [], .bin .neq false (.v 29) (.c (.sc (.int .i64 0)))⟩,
  ⟨some 31, none, none, .objs [], .mv (.v 30)⟩,
  ⟨some 32, some (31, false), none, .objs [], .mv (.v 4)⟩,
  ⟨some 33, some (31, false), none, .objs [], .lenS (.v 32)⟩,
  ⟨some 34, some (31, false), none, .objs [], .fa 0 (.v 3)⟩,
  ⟨some 35, some (31, false), none, .objs [], .ld false 1 (.v 34)⟩,
  ⟨some 36, some (31, false), none, .objs [], .lenS (.v 35)⟩,
  ⟨some 37, some (31, false), none, .objs [], .bin .neq false (.v 33) (.v 36)⟩,
  ⟨some 38, none, none, .objs [], .pk (.v 31) (.c (.sc (.bool true))) (.v 37)⟩])) <|
  .cond (.v 38) (.seq (.ops ([
    ⟨some 2, none, none, .objs [], .mv (.c (.sc (.bool false)))⟩])) <|
    .ret) (.nop)) <|
  .seq (.seq (.ops ([
  ⟨some 39, none, none, .objs [], .mv (.v 4)⟩] ++ mkL [3, 4, 39] ([
  ⟨some 40, none, none, .objs [], .lenS (.v 39)⟩,
  ⟨some 41, none, none, .objs [], .mv (.c (.sc (.int .i64 0)))⟩]))) <|
  .block 0 (.loop (some [3, 4, 39, 40, 41]) il6l1)) <|
  .seq (.seq (.ops ([
  ⟨some 158, none, none, .objs [], .fa 1 (.v 3)⟩,
  ⟨some 159, none, none, .objs [], .ld false 1 (.v 158)⟩,
  ⟨some 160, none, none, .objs [], .lenS (.v 159)⟩,
  ⟨some 161, none, none, .objs [], .mv (.c (.sc (.int .i64 0)))⟩])) <|
  .block 4 (.loop (some [4, 159, 160, 161]) il6l2)) <|
  .seq (.ops ([
  ⟨some 2, none, none, .objs [], .mv (.c (.sc (.bool true)))⟩])) <|
  .ret

theorem il6_eq : cFn Try.prog pol 6 = some ⟨197, il6c, [(2, none)]⟩ := by kernel_rfl
theorem raw6_15_4 {e : FEnv} {h : Heap} : iStep Try.prog pol 6 e h (.raw (opOf Try.prog 6 15 4)) = vOf h (binE Try.prog true 31 (.tmp 58) (.tmp 60) (Src.get e (.v 58)) (Src.get e (.v 60))) := raw_neq (x := (.tmp 58)) (y := (.tmp 60)) (s := 31) (by kernel_rfl)
theorem raw6_18_5 {e : FEnv} {h : Heap} : iStep Try.prog pol 6 e h (.raw (opOf Try.prog 6 18 5)) = vOf h (binE Try.prog true 62 (.tmp 99) (.tmp 103) (Src.get e (.v 99)) (Src.get e (.v 103))) := raw_neq (x := (.tmp 99)) (y := (.tmp 103)) (s := 62) (by kernel_rfl)
theorem raw6_18_12 {e : FEnv} {h : Heap} : iStep Try.prog pol 6 e h (.raw (opOf Try.prog 6 18 12)) = vOf h (binE Try.prog true 62 (.tmp 106) (.tmp 110) (Src.get e (.v 106)) (Src.get e (.v 110))) := raw_neq (x := (.tmp 106)) (y := (.tmp 110)) (s := 62) (by kernel_rfl)
theorem raw6_23_12 {e : FEnv} {h : Heap} : iStep Try.prog pol 6 e h (.raw (opOf Try.prog 6 23 12)) = vOf h (binE Try.prog true 33 (.tmp 137) (.tmp 138) (Src.get e (.v 137)) (Src.get e (.v 138))) := raw_neq (x := (.tmp 137)) (y := (.tmp 138)) (s := 33) (by kernel_rfl)
theorem raw6_23_19 {e : FEnv} {h : Heap} : iStep Try.prog pol 6 e h (.raw (opOf Try.prog 6 23 19)) = vOf h (binE Try.prog true 31 (.tmp 143) (.tmp 145) (Src.get e (.v 143)) (Src.get e (.v 145))) := raw_neq (x := (.tmp 143)) (y := (.tmp 145)) (s := 31) (by kernel_rfl)
theorem raw6_30_4 {e : FEnv} {h : Heap} : iStep Try.prog pol 6 e h (.raw (opOf Try.prog 6 30 4)) = vOf h (binE Try.prog true 31 (.tmp 176) (.tmp 178) (Src.get e (.v 176)) (Src.get e (.v 178))) := raw_neq (x := (.tmp 176)) (y := (.tmp 178)) (s := 31) (by kernel_rfl)

noncomputable def il7l0b : C :=
  .seq (.ops ([
  ⟨some 50, none, none, .objs [], .bin .lss false (.v 49) (.v 48)⟩])) <|
  .seq (.cond (.v 50) (.nop) (.exit 2)) <|
  .seq (.block 3 (.seq (.ops ([
    ⟨some 51, none, none, .objs [], .mv (.v 49)⟩,
    ⟨some 52, none, none, .objs [], .iaS 2 (.v 47) (.v 49)⟩,
    ⟨some 53, none, none, .objs [], .ld true 2 (.v 52)⟩,
    ⟨some 13, none, none, .objs [], .nw 2 (.agg [(.sc (.int .i64 0)), (.sc (.int .i64 0))])⟩,
    ⟨some 12, none, none, .objs [], .mv (.v 51)⟩,
    ⟨none, none, none, .objs [], .st 2 (.v 13) (.v 53)⟩])) <|
    .seq (.seq (.ops ([
    ⟨some 54, none, none, .objs [], .iaA 2 1 (.v 13) (.c (.sc (.int .i64 0)))⟩,
    ⟨some 55, none, none, .objs [], .ld false 1 (.v 54)⟩,
    ⟨some 56, none, none, .objs [], .mv (.v 7)⟩,
    ⟨some 57, none, none, .objs [], .bin .neq false (.v 55) (.v 56)⟩,
    ⟨some 58, none, none, .objs [], .mv (.v 57)⟩,
    ⟨some 59, some (58, true), none, .objs [], .iaA 2 1 (.v 13) (.c (.sc (.int .i64 1)))⟩,
    ⟨some 60, some (58, true), none, .objs [], .ld false 1 (.v 59)⟩] ++ mkL [3, 4, 6, 7, 8, 10, 11, 12, 33, 34, 47, 48, 49, 58, 60] ([
    ⟨some 61, some (58, true), none, .objs [], .mv (.v 7)⟩,
    ⟨some 62, some (58, true), none, .objs [], .bin .neq false (.v 60) (.v 61)⟩,
    ⟨some 63, none, none, .objs [], .pk (.v 58) (.v 62) (.c (.sc (.bool false)))⟩]))) <|
    .cond (.v 63) (.exit 3) (.nop)) <|
    .seq (.seq (.ops ([
    ⟨some 64, none, none, .objs [], .mv (.v 10)⟩,
    ⟨some 65, none, none, .objs [], .mv (.v 8)⟩,
    ⟨some 66, none, none, .objs [], .lenS (.v 65)⟩,
    ⟨some 67, none, none, .objs [], .bin .geq false (.v 64) (.v 66)⟩])) <|
    .cond (.v 67) (.seq (.ops ([
      ⟨some 2, none, none, .objs [], .mv (.c (.sc (.bool false)))⟩])) <|
      .ret) (.nop)) <|
    .seq (.seq (.ops ([
    ⟨some 68, none, none, .objs [], .mv (.v 8)⟩,
    ⟨some 69, none, none, .objs [], .mv (.v 10)⟩,
    ⟨some 70, none, none, .objs [], .iaS 1 (.v 68) (.v 69)⟩,
    ⟨some 71, none, none, .objs [], .ld false 1 (.v 70)⟩,
    ⟨some 72, none, none, .objs [], .bin .eql false (.v 71) (.c (.sc (.int .i64 2)))⟩])) <|
    .cond (.v 72) (.ops ([
      ⟨some 73, none, none, .objs [], .mv (.v 6)⟩] ++ mkL [3, 4, 6, 7, 8, 10, 11, 12, 33, 34, 47, 48, 49, 73] ([
      ⟨some 74, none, none, .objs [], .mv (.v 12)⟩,
      ⟨some 75, none, none, .objs [], .iaS 1 (.v 73) (.v 74)⟩,
      ⟨some 76, none, none, .objs [], .ld false 1 (.v 75)⟩,
      ⟨some 77, none, none, .objs [], .bin .add false (.v 76) (.c (.sc (.int .i64 1)))⟩,
      ⟨some 78, none, none, .objs [], .iaS 1 (.v 73) (.v 74)⟩,
      ⟨none, none, none, .objs [], .st 1 (.v 78) (.v 77)⟩]))) (.nop)) <|
    .seq (.seq (.ops ([
    ⟨some 79, none, none, .objs [], .mv (.v 8)⟩] ++ mkL [3, 4, 6, 7, 8, 10, 11, 33, 34, 47, 48, 49, 79] ([
    ⟨some 80, none, none, .objs [], .mv (.v 10)⟩,
    ⟨some 81, none, none, .objs [], .iaS 1 (.v 79) (.v 80)⟩,
    ⟨some 82, none, none, .objs [], .ld false 1 (.v 81)⟩,
    ⟨some 83, none, none, .objs [], .bin .eql false (.v 82) (.c (.sc (.int .i64 1)))⟩]))) <|
    .cond (.v 83) (.ops ([
      ⟨some 84, none, none, .objs [], .mv (.v 11)⟩,
      ⟨some 85, none, none, .objs [], .bin .add false (.v 84) (.c (.sc (.int .i64 1)))⟩,
      ⟨some 11, none, none, .objs [], .mv (.v 85)⟩])) (.nop)) <|
    .ops ([
    ⟨some 86, none, none, .objs [], .mv (.v 10)⟩,
    ⟨some 87, none, none, .objs [], .bin .add false (.v 86) (.c (.sc (.int .i64 1)))⟩,
    ⟨some 10, none, none, .objs [], .mv (.v 87)⟩]))) <|
  .ops ([
  ⟨some 88, none, none, .objs [], .bin .add false (.v 49) (.c (.sc (.int .i64 1)))⟩,
  ⟨some 49, none, none, .objs [], .mv (.v 88)⟩])
noncomputable def il7l0 : C := il7l0b
theorem il7l0_go {P : Program} {pol : Pol} {K : Oracle} {I : Inl} {n : Nat} {f : FuncId} {R : Xit → FEnv → Heap → Prop} {e : FEnv} {h : Heap} : wc P pol K I n f il7l0 R e h = wc P pol K I n f il7l0b R e h := (fun x => x) rfl

noncomputable def il7l1b : C :=
  .seq (.ops ([
  ⟨some 35, none, none, .objs [], .bin .lss false (.v 34) (.v 33)⟩])) <|
  .seq (.cond (.v 35) (.nop) (.exit 0)) <|
  .seq (.block 1 (.seq (.ops ([
    ⟨some 36, none, none, .objs [], .mv (.v 34)⟩,
    ⟨some 7, none, none, .objs [], .mv (.v 36)⟩])) <|
    .seq (.ops ([
    ⟨some 38, none, none, .objs [], .ld true 2 (.v 3)⟩,
    ⟨some 39, none, none, .objs [], .mv (.v 4)⟩,
    ⟨some 40, none, none, .objs [], .mv (.v 7)⟩,
    ⟨some 41, none, none, .objs [], .call (.c (.fn (.func 24) [] [])) [(.v 38), (.v 39), (.v 40)]⟩,
    ⟨some 37, none, none, .objs [], .mv (.v 41)⟩,
    ⟨some 42, none, none, .objs [], .ex (.v 37) 0⟩,
    ⟨some 43, none, none, .objs [], .ex (.v 37) 1⟩,
    ⟨some 8, none, none, .objs [], .mv (.v 42)⟩,
    ⟨some 9, none, none, .objs [], .mv (.v 43)⟩])) <|
    .seq (.seq (.ops ([
    ⟨some 44, none, none, .objs [], .mv (.v 9)⟩,
    ⟨some 45, none, none, .objs [], .bin .neq false (.v 44) (.c (.sc (.int .i64 0)))⟩])) <| mkC [3, 4, 6, 7, 8, 33, 34, 45] <|
    .cond (.v 45) (.seq (.ops ([
      ⟨some 2, none, none, .objs [], .mv (.c (.sc (.bool false)))⟩])) <|
      .ret) (.nop)) <|
    .seq (.ops ([
    ⟨some 10, none, none, .objs [], .mv (.c (.sc (.int .i64 0)))⟩,
    ⟨some 11, none, none, .objs [], .mv (.c (.sc (.int .i64 0)))⟩])) <|
    .seq (.seq (.ops ([
    ⟨some 46, none, none, .objs [], .fa 1 (.v 3)⟩,
    ⟨some 47, none, none, .objs [], .ld false 1 (.v 46)⟩,
    ⟨some 48, none, none, .objs [], .lenS (.v 47)⟩,
    ⟨some 49, none, none, .objs [], .mv (.c (.sc (.int .i64 0)))⟩])) <|
    .block 2 (.loop (some [3, 4, 6, 7, 8, 10, 11, 33, 34, 47, 48, 49]) il7l0)) <|
    .seq (.ops ([
    ⟨some 89, none, none, .objs [], .mv (.v 10)⟩,
    ⟨some 90, none, none, .objs [], .mv (.v 8)⟩,
    ⟨some 91, none, none, .objs [], .lenS (.v 90)⟩,
    ⟨some 92, none, none, .objs [], .bin .neq false (.v 89) (.v 91)⟩,
    ⟨some 93, none, none, .objs [], .mv (.v 92)⟩,
    ⟨some 94, some (93, false), none, .objs [], .mv (.v 11)⟩,
    ⟨some 95, some (93, false), none, .objs [], .mv (.v 4)⟩,
    ⟨some 96, some (93, false), none, .objs [], .mv (.v 7)⟩,
    ⟨some 97, some (93, false), none, .objs [], .iaS 9 (.v 95) (.v 96)⟩,
    ⟨some 98, some (93, false), none, .objs [], .fa 6 (.v 97)⟩,
    ⟨some 99, some (93, false), none, .objs [], .ld false 1 (.v 98)⟩,
    ⟨some 100, some (93, false), none, .objs [], .mnx false (.v 99) (.c (.sc (.int .i64 1)))⟩,
    ⟨some 101, some (93, false), none, .objs [], .bin .neq false (.v 94) (.v 100)⟩,
    ⟨some 102, none, none, .objs [], .pk (.v 93) (.c (.sc (.bool true))) (.v 101)⟩])) <| mkC [3, 4, 6, 33, 34, 102] <|
    .cond (.v 102) (.seq (.ops ([
      ⟨some 2, none, none, .objs [], .mv (.c (.sc (.bool false)))⟩])) <|
      .ret) (.nop))) <|
  .ops ([
  ⟨some 103, none, none, .objs [], .bin .add false (.v 34) (.c (.sc (.int .i64 1)))⟩,
  ⟨some 34, none, none, .objs [], .mv (.v 103)⟩])
noncomputable def il7l1 : C := il7l1b
theorem il7l1_go {P : Program} {pol : Pol} {K : Oracle} {I : Inl} {n : Nat} {f : FuncId} {R : Xit → FEnv → Heap → Prop} {e : FEnv} {h : Heap} : wc P pol K I n f il7l1 R e h = wc P pol K I n f il7l1b R e h := (fun x => x) rfl

noncomputable def il7l2b : C :=
  .seq (.ops ([
  ⟨some 107, none, none, .objs [], .bin .lss false (.v 106) (.v 105)⟩])) <|
  .seq (.cond (.v 107) (.nop) (.exit 4)) <|
  .seq (.block 5 (.seq (.ops ([
    ⟨some 108, none, none, .objs [], .iaS 1 (.v 104) (.v 106)⟩,
    ⟨some 109, none, none, .objs [], .ld false 1 (.v 108)⟩,
    ⟨some 15, none, none, .objs [], .mv (.v 109)⟩])) <|
    .seq (.ops ([
    ⟨some 110, none, none, .objs [], .mv (.v 15)⟩,
    ⟨some 111, none, none, .objs [], .bin .neq false (.v 110) (.c (.sc (.int .i64 1)))⟩])) <|
    .cond (.v 111) (.seq (.ops ([
      ⟨some 2, none, none, .objs [], .mv (.c (.sc (.bool false)))⟩])) <|
      .ret) (.nop))) <|
  .ops ([
  ⟨some 112, none, none, .objs [], .bin .add false (.v 106) (.c (.sc (.int .i64 1)))⟩,
  ⟨some 106, none, none, .objs [], .mv (.v 112)⟩])
noncomputable def il7l2 : C := il7l2b
theorem il7l2_go {P : Program} {pol : Pol} {K : Oracle} {I : Inl} {n : Nat} {f : FuncId} {R : Xit → FEnv → Heap → Prop} {e : FEnv} {h : Heap} : wc P pol K I n f il7l2 R e h = wc P pol K I n f il7l2b R e h := (fun x => x) rfl

/-- isochron/isochronlaw11.ElectPorts -/
noncomputable def il7c : C :=
  .seq (.ops ([
  ⟨some 1, none, none, .objs [], .bx false (.v 0)⟩,
  ⟨some 2, none, none, .objs [], .mv (.c (.sc (.bool false)))⟩])) <|
  .seq (.seq (.ops ([
  ⟨some 16, none, none, .objs [], .call (.c (.fn (.func 11) [] [])) []⟩,
  ⟨some 17, none, none, .objs [], .nt (.v 16)⟩])) <|
  .cond (.v 17) (.seq (.ops ([
    ⟨some 2, none, none, .objs [], .mv (.c (.sc (.bool false)))⟩])) <|
    .ret) (.nop)) <|
  .seq (.ops ([
  ⟨some 18, none, none, .objs [], .ld true 4 (.v 1)⟩,
  ⟨some 19, none, none, .objs [], .call (.c (.fn (.func 13) [] [])) [(.v 18)]⟩,
  ⟨some 3, none, none, .objs [], .nw 2 (.agg [(.sc (.slice none 0 0)), (.sc (.slice none 0 0))])⟩,
  ⟨none, none, none, .objs [], .st 2 (.v 3) (.v 19)⟩])) <|
  .seq (.ops ([
  ⟨some 21, none, none, .objs [], .ld true 2 (.v 3)⟩,
  ⟨some 22, none, none, .objs [], .call (.c (.fn (.func 20) [] [])) [(.v 21)]⟩,
  ⟨some 20, none, none, .objs [], .mv (.v 22)⟩,
  ⟨some 23, none, none, .objs [], .ex (.v 20) 0⟩,
  ⟨some 24, none, none, .objs [], .ex (.v 20) 1⟩] ++ mkL [3, 23, 24] ([
  ⟨some 4, none, none, .objs [], .mv (.v 23)⟩,
  ⟨some 5, none, none, .objs [], .mv (.v 24)⟩]))) <|
  .seq (.seq (.ops ([
  ⟨some 25, none, none, .objs [], .mv (.v 5)⟩,
  ⟨some 26, none, none, .objs [], .bin .neq false (.v 25) (.c (.sc (.int .i64 0)))⟩])) <|
  .cond (.v 26) (.seq (.ops ([
    ⟨some 2, none, none, .objs [], .mv (.c (.sc (.bool false)))⟩])) <|
    .ret) (.nop)) <|
  .seq (.ops ([
  ⟨some 27, none, none, .objs [], .fa 1 (.v 3)⟩,
  ⟨some 28, none, none, .objs [], .ld false 1 (.v 27)⟩,
  ⟨some 29, none, none, .objs [], .lenS (.v 28)⟩,
  ⟨some 30, none, none, .objs [], .raw (opOf Try.prog 7 7 3)⟩,
  ⟨some 6, none, none, .objs [], .mv (.v 30)⟩])) <|
  .seq (.seq (.ops ([
  ⟨some 31, none, none, .objs [], .fa 0 (.v 3)⟩,
  ⟨some 32, none, none, .objs [], .ld false 1 (.v 31)⟩,
  ⟨some 33, none, none, .objs [], .lenS (.v 32)⟩,
  ⟨some 34, none, none, .objs [], .mv (.c (.sc (.int .i64 0)))⟩])) <| mkC [3, 4, 6, 33, 34] <|
  .block 0 (.loop (some [3, 4, 6, 33, 34]) il7l1)) <|
  .seq (.seq (.ops ([
  ⟨some 104, none, none, .objs [], .mv (.v 6)⟩,
  ⟨some 105, none, none, .objs [], .lenS (.v 104)⟩,
  ⟨some 106, none, none, .objs [], .mv (.c (.sc (.int .i64 0)))⟩])) <|
  .block 4 (.loop (some [104, 105, 106]) il7l2)) <|
  .seq (.ops ([
  ⟨some 2, none, none, .objs [], .mv (.c (.sc (.bool true)))⟩])) <|
  .ret

theorem il7_eq : cFn Try.prog pol 7 = some ⟨113, il7c, [(2, none)]⟩ := by kernel_rfl
theorem raw7_7_3 {e : FEnv} {h : Heap} : iStep Try.prog pol 7 e h (.raw (opOf Try.prog 7 7 3)) = mkSl 1 8 (.sc (.int .i64 0)) h (asNat (Src.get e (.v 29))) (asNat (Src.get e (.v 29))) := raw_makeSlice (t := 54) (l := (.tmp 29)) (c := (.tmp 29)) (elem := 3) (by kernel_rfl) (by kernel_rfl) (by kernel_rfl) (by kernel_rfl) (by kernel_rfl) (by kernel_rfl)

/-- isochron/isochronlaw11.ElectOrders -/
noncomputable def il8c : C :=
  .seq (.ops ([
  ⟨some 3, none, none, .objs [], .bx false (.v 0)⟩,
  ⟨some 4, none, none, .objs [], .bx true (.v 1)⟩,
  ⟨some 5, none, none, .objs [], .bx true (.v 2)⟩,
  ⟨some 6, none, none, .objs [], .mv (.c (.sc (.bool false)))⟩])) <|
  .seq (.seq (.ops ([
  ⟨some 10, none, none, .objs [], .call (.c (.fn (.func 11) [] [])) []⟩,
  ⟨some 11, none, none, .objs [], .nt (.v 10)⟩])) <|
  .cond (.v 11) (.seq (.ops ([
    ⟨some 6, none, none, .objs [], .mv (.c (.sc (.bool false)))⟩])) <|
    .ret) (.nop)) <|
  .seq (.ops ([
  ⟨some 12, none, none, .objs [], .fa 0 (.v 3)⟩,
  ⟨some 13, none, none, .objs [], .fa 0 (.v 12)⟩,
  ⟨some 14, none, none, .objs [], .ld false 1 (.v 13)⟩,
  ⟨some 15, none, none, .objs [], .fa 0 (.v 4)⟩,
  ⟨some 16, none, none, .objs [], .fa 0 (.v 15)⟩,
  ⟨none, none, none, .objs [], .st 1 (.v 16) (.v 14)⟩])) <|
  .seq (.ops ([
  ⟨some 17, none, none, .objs [], .fa 0 (.v 4)⟩] ++ mkL [3, 4, 5, 17] ([
  ⟨some 18, none, none, .objs [], .ld true 6 (.v 17)⟩,
  ⟨some 19, none, none, .objs [], .fa 0 (.v 5)⟩,
  ⟨none, none, none, .objs [], .st 6 (.v 19) (.v 18)⟩]))) <|
  .seq (.opsD [(2, 3), (2, 4), (2, 6), (5, 6), (2, 7), (5, 7)] ([
  ⟨some 20, none, none, .objs [(.v 3)], .ld true 9 (.v 3)⟩,
  ⟨some 21, none, none, .objs [(.v 4)], .ld true 9 (.v 4)⟩,
  ⟨some 22, none, none, .cal (.c (.fn (.func 18) [] [])) [(.v 20), (.v 21)], .call (.c (.fn (.func 18) [] [])) [(.v 20), (.v 21)]⟩,
  ⟨some 23, none, none, .objs [(.v 4)], .ld true 9 (.v 4)⟩,
  ⟨some 24, none, none, .objs [(.v 5)], .ld true 9 (.v 5)⟩,
  ⟨some 25, none, none, .cal (.c (.fn (.func 18) [] [])) [(.v 23), (.v 24)], .call (.c (.fn (.func 18) [] [])) [(.v 23), (.v 24)]⟩,
  ⟨some 26, none, none, .objs [(.v 3)], .ld true 9 (.v 3)⟩,
  ⟨some 27, none, none, .objs [(.v 5)], .ld true 9 (.v 5)⟩,
  ⟨some 28, none, none, .cal (.c (.fn (.func 18) [] [])) [(.v 26), (.v 27)], .call (.c (.fn (.func 18) [] [])) [(.v 26), (.v 27)]⟩,
  ⟨some 7, none, none, .objs [], .mv (.v 22)⟩,
  ⟨some 8, none, none, .objs [], .mv (.v 25)⟩] ++ mkL [3, 4, 5, 7, 8, 28] ([
  ⟨some 9, none, none, .objs [], .mv (.v 28)⟩]))) <|
  .seq (.seq (.ops ([
  ⟨some 29, none, none, .objs [], .ld true 9 (.v 4)⟩,
  ⟨some 30, none, none, .objs [], .ld true 9 (.v 3)⟩,
  ⟨some 31, none, none, .objs [], .call (.c (.fn (.func 18) [] [])) [(.v 29), (.v 30)]⟩,
  ⟨some 32, none, none, .objs [], .mv (.v 7)⟩,
  ⟨some 33, none, none, .objs [], .ng (.v 32)⟩,
  ⟨some 34, none, none, .objs [], .bin .neq false (.v 31) (.v 33)⟩,
  ⟨some 35, none, none, .objs [], .mv (.v 34)⟩,
  ⟨some 36, some (35, false), none, .objs [], .ld true 9 (.v 5)⟩,
  ⟨some 37, some (35, false), none, .objs [], .ld true 9 (.v 4)⟩,
  ⟨some 38, some (35, false), none, .objs [], .call (.c (.fn (.func 18) [] [])) [(.v 36), (.v 37)]⟩,
  ⟨some 39, some (35, false), none, .objs [], .mv (.v 8)⟩,
  ⟨some 40, some (35, false), none, .objs [], .ng (.v 39)⟩,
  ⟨some 41, some (35, false), none, .objs [], .bin .neq false (.v 38) (.v 40)⟩] ++ mkL [3, 4, 5, 7, 8, 9, 35, 41] ([
  ⟨some 42, none, none, .objs [], .pk (.v 35) (.c (.sc (.bool true))) (.v 41)⟩,
  ⟨some 43, none, none, .objs [], .mv (.v 42)⟩,
  ⟨some 44, some (43, false), none, .objs [], .mv (.v 7)⟩,
  ⟨some 45, some (43, false), none, .objs [], .bin .eql false (.v 44) (.c (.sc (.int .i64 0)))⟩,
  ⟨some 46, some (43, false), none, .objs [], .ld true 9 (.v 3)⟩,
  ⟨some 47, some (43, false), none, .objs [], .ld true 9 (.v 4)⟩,
  ⟨some 48, some (43, false), none, .objs [], .raw (opOf Try.prog 8 6 19)⟩,
  ⟨some 49, some (43, false), none, .objs [], .bin .neq true (.v 45) (.v 48)⟩,
  ⟨some 50, none, none, .objs [], .pk (.v 43) (.c (.sc (.bool true))) (.v 49)⟩,
  ⟨some 51, none, none, .objs [], .mv (.v 50)⟩,
  ⟨some 52, some (51, false), none, .objs [], .mv (.v 8)⟩,
  ⟨some 53, some (51, false), none, .objs [], .bin .eql false (.v 52) (.c (.sc (.int .i64 0)))⟩,
  ⟨some 54, some (51, false), none, .objs [], .ld true 9 (.v 4)⟩,
  ⟨some 55, some (51, false), none, .objs [], .ld true 9 (.v 5)⟩] ++ mkL [3, 7, 8, 9, 51, 53, 54, 55] ([
  ⟨some 56, some (51, false), none, .objs [], .raw (opOf Try.prog 8 6 27)⟩,
  ⟨some 57, some (51, false), none, .objs [], .bin .neq true (.v 53) (.v 56)⟩,
  ⟨some 58, none, none, .objs [], .pk (.v 51) (.c (.sc (.bool true))) (.v 57)⟩,
  ⟨some 59, none, none, .objs [], .mv (.v 58)⟩,
  ⟨some 60, some (59, false), none, .objs [], .ld true 9 (.v 3)⟩,
  ⟨some 61, some (59, false), none, .objs [], .ld true 9 (.v 3)⟩,
  ⟨some 62, some (59, false), none, .objs [], .call (.c (.fn (.func 18) [] [])) [(.v 60), (.v 61)]⟩,
  ⟨some 63, some (59, false), none, .objs [], .bin .neq false (.v 62) (.c (.sc (.int .i64 0)))⟩,
  ⟨some 64, none, none, .objs [], .pk (.v 59) (.c (.sc (.bool true))) (.v 63)⟩])))) <|
  .cond (.v 64) (.seq (.ops ([
    ⟨some 6, none, none, .objs [], .mv (.c (.sc (.bool false)))⟩])) <|
    .ret) (.nop)) <|
  .seq (.ops ([
  ⟨some 65, none, none, .objs [], .mv (.v 7)⟩,
  ⟨some 66, none, none, .objs [], .bin .leq false (.v 65) (.c (.sc (.int .i64 0)))⟩,
  ⟨some 67, none, none, .objs [], .mv (.v 66)⟩,
  ⟨some 68, some (67, true), none, .objs [], .mv (.v 8)⟩] ++ mkL [7, 8, 9, 67, 68] ([
  ⟨some 69, some (67, true), none, .objs [], .bin .leq false (.v 68) (.c (.sc (.int .i64 0)))⟩,
  ⟨some 70, none, none, .objs [], .pk (.v 67) (.v 69) (.c (.sc (.bool false)))⟩,
  ⟨some 71, none, none, .objs [], .nt (.v 70)⟩,
  ⟨some 72, none, none, .objs [], .mv (.v 71)⟩,
  ⟨some 73, some (72, false), none, .objs [], .mv (.v 9)⟩,
  ⟨some 74, some (72, false), none, .objs [], .bin .leq false (.v 73) (.c (.sc (.int .i64 0)))⟩,
  ⟨some 75, some (72, false), none, .objs [], .mv (.v 74)⟩,
  ⟨some 76, some (75, true), none, .objs [], .mv (.v 9)⟩,
  ⟨some 77, some (75, true), none, .objs [], .bin .lss false (.v 76) (.c (.sc (.int .i64 0)))⟩,
  ⟨some 78, some (75, true), none, .objs [], .mv (.v 77)⟩,
  ⟨some 79, some (78, false), none, .objs [], .mv (.v 7)⟩,
  ⟨some 80, some (78, false), none, .objs [], .bin .eql false (.v 79) (.c (.sc (.int .i64 0)))⟩,
  ⟨some 81, some (78, false), none, .objs [], .mv (.v 80)⟩,
  ⟨some 82, some (81, true), none, .objs [], .mv (.v 8)⟩] ++ mkL [72, 75, 78, 81, 82] ([
  ⟨some 83, some (81, true), none, .objs [], .bin .eql false (.v 82) (.c (.sc (.int .i64 0)))⟩,
  ⟨some 84, some (78, false), none, .objs [], .pk (.v 81) (.v 83) (.c (.sc (.bool false)))⟩,
  ⟨some 85, some (75, true), none, .objs [], .pk (.v 78) (.c (.sc (.bool true))) (.v 84)⟩,
  ⟨some 86, some (72, false), none, .objs [], .pk (.v 75) (.v 85) (.c (.sc (.bool false)))⟩,
  ⟨some 87, none, none, .objs [], .pk (.v 72) (.c (.sc (.bool true))) (.v 86)⟩,
  ⟨some 6, none, none, .objs [], .mv (.v 87)⟩])))) <|
  .ret

theorem il8_eq : cFn Try.prog pol 8 = some ⟨88, il8c, [(6, none)]⟩ := by kernel_rfl
theorem raw8_6_19 {e : FEnv} {h : Heap} : iStep Try.prog pol 8 e h (.raw (opOf Try.prog 8 6 19)) = vOf h (binE Try.prog false 33 (.tmp 46) (.tmp 47) (Src.get e (.v 46)) (Src.get e (.v 47))) := raw_eql (x := (.tmp 46)) (y := (.tmp 47)) (s := 33) (by kernel_rfl)
theorem raw8_6_27 {e : FEnv} {h : Heap} : iStep Try.prog pol 8 e h (.raw (opOf Try.prog 8 6 27)) = vOf h (binE Try.prog false 33 (.tmp 54) (.tmp 55) (Src.get e (.v 54)) (Src.get e (.v 55))) := raw_eql (x := (.tmp 54)) (y := (.tmp 55)) (s := 33) (by kernel_rfl)

noncomputable def il10l0b : C :=
  .seq (.ops ([
  ⟨some 57, none, none, .objs [], .bin .lss false (.v 56) (.c (.sc (.int .i64 4)))⟩])) <|
  .seq (.cond (.v 57) (.nop) (.exit 0)) <|
  .seq (.block 1 (.seq (.ops ([
    ⟨some 58, none, none, .objs [], .ixA true 3 4 3 (.v 55) (.v 56)⟩,
    ⟨some 17, none, none, .objs [], .nw 3 (.agg [(.sc (.slice none 0 0)), (.sc (.slice none 0 0)), (.sc (.slice none 0 0))])⟩,
    ⟨none, none, none, .objs [], .st 3 (.v 17) (.v 58)⟩])) <|
    .seq (.ops ([
    ⟨some 60, none, none, .objs [], .fa 0 (.v 17)⟩,
    ⟨some 61, none, none, .objs [], .ld true 2 (.v 60)⟩,
    ⟨some 62, none, none, .objs [], .fa 2 (.v 17)⟩,
    ⟨some 63, none, none, .objs [], .ld false 1 (.v 62)⟩,
    ⟨some 64, none, none, .objs [], .call (.c (.fn (.func 27) [] [])) [(.v 61), (.v 63)]⟩,
    ⟨some 59, none, none, .objs [], .mv (.v 64)⟩,
    ⟨some 65, none, none, .objs [], .ex (.v 59) 0⟩,
    ⟨some 66, none, none, .objs [], .ex (.v 59) 1⟩,
    ⟨some 18, none, none, .objs [], .mv (.v 65)⟩,
    ⟨some 19, none, none, .objs [], .mv (.v 66)⟩])) <| mkC [17, 18, 19, 55, 56] <|
    .block 2 (.seq (.ops ([
      ⟨some 80, none, none, .objs [], .fa 0 (.v 17)⟩,
      ⟨some 81, none, none, .objs [], .ld true 2 (.v 80)⟩,
      ⟨some 82, none, none, .objs [], .call (.c (.fn (.func 14) [] [])) [(.v 81)]⟩,
      ⟨some 83, none, none, .objs [], .nt (.v 82)⟩,
      ⟨some 79, none, none, .objs [], .mv (.v 83)⟩])) <|
      .cond (.v 79) (.seq (.ops ([
        ⟨some 84, none, none, .objs [], .mv (.v 19)⟩,
        ⟨some 85, none, none, .objs [], .bin .neq false (.v 84) (.c (.sc (.int .i64 210)))⟩,
        ⟨some 86, none, none, .objs [], .mv (.v 85)⟩,
        ⟨some 87, some (86, false), none, .objs [], .mv (.v 18)⟩,
        ⟨some 88, some (86, false), none, .objs [], .lenS (.v 87)⟩,
        ⟨some 89, some (86, false), none, .objs [], .bin .gtr false (.v 88) (.c (.sc (.int .i64 0)))⟩,
        ⟨some 90, none, none, .objs [], .pk (.v 86) (.c (.sc (.bool true))) (.v 89)⟩])) <|
        .cond (.v 90) (.seq (.ops ([
          ⟨some 12, none, none, .objs [], .mv (.c (.sc (.bool false)))⟩])) <|
          .ret) (.nop)) (.seq (.ops ([
        ⟨some 92, none, none, .objs [], .fa 0 (.v 17)⟩,
        ⟨some 93, none, none, .objs [], .ld true 2 (.v 92)⟩,
        ⟨some 94, none, none, .objs [], .fa 2 (.v 17)⟩,
        ⟨some 95, none, none, .objs [], .ld false 1 (.v 94)⟩,
        ⟨some 96, none, none, .objs [], .call (.c (.fn (.func 30) [] [])) [(.v 93), (.v 95)]⟩,
        ⟨some 97, none, none, .objs [], .nt (.v 96)⟩,
        ⟨some 91, none, none, .objs [], .mv (.v 97)⟩])) <|
        .cond (.v 91) (.seq (.ops ([
          ⟨some 98, none, none, .objs [], .mv (.v 19)⟩,
          ⟨some 99, none, none, .objs [], .bin .neq false (.v 98) (.c (.sc (.int .i64 211)))⟩] ++ mkL [18, 55, 56, 99] ([
          ⟨some 100, none, none, .objs [], .mv (.v 99)⟩,
          ⟨some 101, some (100, false), none, .objs [], .mv (.v 18)⟩,
          ⟨some 102, some (100, false), none, .objs [], .lenS (.v 101)⟩,
          ⟨some 103, some (100, false), none, .objs [], .bin .gtr false (.v 102) (.c (.sc (.int .i64 0)))⟩,
          ⟨some 104, none, none, .objs [], .pk (.v 100) (.c (.sc (.bool true))) (.v 103)⟩]))) <|
          .cond (.v 104) (.seq (.ops ([
            ⟨some 12, none, none, .objs [], .mv (.c (.sc (.bool false)))⟩])) <|
            .ret) (.nop)) (.seq (.ops ([
          ⟨some 67, none, none, .objs [], .mv (.v 19)⟩,
          ⟨some 68, none, none, .objs [], .bin .neq false (.v 67) (.c (.sc (.int .i64 0)))⟩] ++ mkL [17, 18, 55, 56, 68] ([
          ⟨some 69, none, none, .objs [], .mv (.v 68)⟩,
          ⟨some 70, some (69, false), none, .objs [], .mv (.v 18)⟩,
          ⟨some 71, some (69, false), none, .objs [], .fa 0 (.v 17)⟩,
          ⟨some 72, some (69, false), none, .objs [], .ld true 2 (.v 71)⟩,
          ⟨some 73, some (69, false), none, .objs [], .fa 2 (.v 17)⟩,
          ⟨some 74, some (69, false), none, .objs [], .ld false 1 (.v 73)⟩,
          ⟨some 75, some (69, false), none, .objs [], .call (.c (.fn (.func 31) [] [])) [(.v 72), (.v 74)]⟩,
          ⟨some 76, some (69, false), none, .objs [], .call (.c (.fn (.func 21) [] [])) [(.v 70), (.v 75)]⟩,
          ⟨some 77, some (69, false), none, .objs [], .nt (.v 76)⟩,
          ⟨some 78, none, none, .objs [], .pk (.v 69) (.c (.sc (.bool true))) (.v 77)⟩]))) <|
          .cond (.v 78) (.seq (.ops ([
            ⟨some 12, none, none, .objs [], .mv (.c (.sc (.bool false)))⟩])) <|
            .ret) (.nop)))))) <|
  .ops ([
  ⟨some 105, none, none, .objs [], .bin .add false (.v 56) (.c (.sc (.int .i64 1)))⟩] ++ mkL [55, 105] ([
  ⟨some 56, none, none, .objs [], .mv (.v 105)⟩]))
noncomputable def il10l0 : C := il10l0b
theorem il10l0_go {P : Program} {pol : Pol} {K : Oracle} {I : Inl} {n : Nat} {f : FuncId} {R : Xit → FEnv → Heap → Prop} {e : FEnv} {h : Heap} : wc P pol K I n f il10l0 R e h = wc P pol K I n f il10l0b R e h := (fun x => x) rfl

/-- isochron/isochronlaw11.ElectRounds -/
noncomputable def il10c : C :=
  .seq (.ops ([
  ⟨some 6, none, none, .objs [], .bx false (.v 0)⟩,
  ⟨some 8, none, none, .objs [], .bx false (.v 2)⟩,
  ⟨some 11, none, none, .objs [], .bx false (.v 5)⟩,
  ⟨some 12, none, none, .objs [], .mv (.c (.sc (.bool false)))⟩])) <|
  .seq (.seq (.ops ([
  ⟨some 20, none, none, .objs [], .call (.c (.fn (.func 11) [] [])) []⟩,
  ⟨some 21, none, none, .objs [], .nt (.v 20)⟩])) <|
  .cond (.v 21) (.seq (.ops ([
    ⟨some 12, none, none, .objs [], .mv (.c (.sc (.bool false)))⟩])) <|
    .ret) (.nop)) <|
  .seq (.ops ([
  ⟨some 22, none, none, .objs [], .ld true 4 (.v 8)⟩,
  ⟨some 23, none, none, .objs [], .call (.c (.fn (.func 13) [] [])) [(.v 22)]⟩,
  ⟨some 13, none, none, .objs [], .nw 2 (.agg [(.sc (.slice none 0 0)), (.sc (.slice none 0 0))])⟩,
  ⟨none, none, none, .objs [], .st 2 (.v 13) (.v 23)⟩])) <|
  .seq (.ops ([
  ⟨some 24, none, none, .objs [], .ld true 2 (.v 13)⟩,
  ⟨some 25, none, none, .objs [], .mv (.v 3)⟩,
  ⟨some 26, none, none, .objs [], .call (.c (.fn (.func 23) [] [])) [(.v 24), (.v 25)]⟩] ++ mkL [1, 4, 6, 11, 13, 26] ([
  ⟨some 14, none, none, .objs [], .mv (.v 26)⟩]))) <|
  .seq (.ops ([
  ⟨some 27, none, none, .objs [], .mv (.v 14)⟩,
  ⟨some 28, none, none, .objs [], .call (.c (.fn (.func 29) [] [])) [(.v 27)]⟩,
  ⟨some 15, none, none, .objs [], .mv (.v 28)⟩])) <|
  .seq (.opsD [] ([
  ⟨some 29, none, none, .objs [], .mv (.v 15)⟩,
  ⟨some 30, none, none, .objs [], .mv (.v 4)⟩,
  ⟨some 31, none, none, .objs [], .cv .i64 (.v 30)⟩,
  ⟨some 32, none, none, .objs [], .mv (.v 15)⟩,
  ⟨some 33, none, none, .objs [(.v 32)], .lenS (.v 32)⟩,
  ⟨some 34, none, none, .objs [], .bin .rem false (.v 31) (.v 33)⟩,
  ⟨some 35, none, none, .objs [(.v 11)], .ld true 9 (.v 11)⟩,
  ⟨some 36, none, none, .objs [], .iaS 9 (.v 29) (.v 34)⟩,
  ⟨none, none, none, .objs [(.v 36)], .st 9 (.v 36) (.v 35)⟩])) <|
  .seq (.seq (.opsD [(1, 4), (1, 8), (1, 11), (1, 14)] ([
  ⟨some 37, none, none, .objs [(.v 6)], .ld true 2 (.v 6)⟩] ++ mkL [1, 13, 14, 15, 37] ([
  ⟨some 38, none, none, .cal (.c (.fn (.func 12) [] [])) [(.v 37)], .call (.c (.fn (.func 12) [] [])) [(.v 37)]⟩,
  ⟨some 39, none, none, .objs [], .mv (.v 1)⟩,
  ⟨some 40, none, none, .objs [], .mv (.v 1)⟩,
  ⟨some 41, none, none, .objs [(.v 40)], .lenS (.v 40)⟩,
  ⟨some 42, none, none, .objs [], .mnx false (.v 41) (.c (.sc (.int .i64 14)))⟩,
  ⟨some 43, none, none, .objs [], .sl 9 (.v 39) none (some (.v 42)) none⟩,
  ⟨some 44, none, none, .objs [], .bd [(.sc (.slice none 0 0)), (.sc (.slice none 0 0)), (.sc (.slice none 0 0))] [(0, 2, (.v 38)), (2, 1, (.v 43))]⟩,
  ⟨some 45, none, none, .objs [(.v 13)], .ld true 2 (.v 13)⟩,
  ⟨some 46, none, none, .objs [], .mv (.v 14)⟩,
  ⟨some 47, none, none, .objs [], .bd [(.sc (.slice none 0 0)), (.sc (.slice none 0 0)), (.sc (.slice none 0 0))] [(0, 2, (.v 45)), (2, 1, (.v 46))]⟩,
  ⟨some 48, none, none, .objs [(.v 13)], .ld true 2 (.v 13)⟩,
  ⟨some 49, none, none, .objs [], .mv (.v 15)⟩,
  ⟨some 50, none, none, .objs [], .bd [(.sc (.slice none 0 0)), (.sc (.slice none 0 0)), (.sc (.slice none 0 0))] [(0, 2, (.v 48)), (2, 1, (.v 49))]⟩,
  ⟨some 51, none, none, .objs [(.v 13)], .ld true 2 (.v 13)⟩] ++ mkL [14, 44, 47, 50, 51] ([
  ⟨some 52, none, none, .objs [], .mv (.v 14)⟩,
  ⟨some 53, none, none, .objs [], .sl 9 (.v 52) (some (.c (.sc (.int .i64 1)))) none none⟩,
  ⟨some 54, none, none, .objs [], .bd [(.sc (.slice none 0 0)), (.sc (.slice none 0 0)), (.sc (.slice none 0 0))] [(0, 2, (.v 51)), (2, 1, (.v 53))]⟩,
  ⟨some 55, none, none, .objs [], .bd [(.sc (.slice none 0 0)), (.sc (.slice none 0 0)), (.sc (.slice none 0 0)), (.sc (.slice none 0 0)), (.sc (.slice none 0 0)), (.sc (.slice none 0 0)), (.sc (.slice none 0 0)), (.sc (.slice none 0 0)), (.sc (.slice none 0 0)), (.sc (.slice none 0 0)), (.sc (.slice none 0 0)), (.sc (.slice none 0 0))] [(0, 3, (.v 44)), (3, 3, (.v 47)), (6, 3, (.v 50)), (9, 3, (.v 54))]⟩,
  ⟨some 56, none, none, .objs [], .mv (.c (.sc (.int .i64 0)))⟩])))) <|
  .block 0 (.loop (some [55, 56]) il10l0)) <|
  .seq (.ops ([
  ⟨some 12, none, none, .objs [], .mv (.c (.sc (.bool true)))⟩])) <|
  .ret

theorem il10_eq : cFn Try.prog pol 10 = some ⟨106, il10c, [(12, none)]⟩ := by kernel_rfl

/-- isochron/isochronlaw11.few -/
noncomputable def il12c : C :=
  .seq (.ops ([
  ⟨some 1, none, none, .objs [], .bx false (.v 0)⟩,
  ⟨some 2, none, none, .objs [], .nw 2 (.agg [(.sc (.slice none 0 0)), (.sc (.slice none 0 0))])⟩])) <|
  .seq (.opsD [] ([
  ⟨some 3, none, none, .objs [], .fa 0 (.v 1)⟩,
  ⟨some 4, none, none, .objs [(.v 3)], .ld false 1 (.v 3)⟩,
  ⟨some 5, none, none, .objs [], .fa 0 (.v 1)⟩,
  ⟨some 6, none, none, .objs [(.v 5)], .ld false 1 (.v 5)⟩,
  ⟨some 7, none, none, .objs [(.v 6)], .lenS (.v 6)⟩,
  ⟨some 8, none, none, .objs [], .mnx false (.v 7) (.c (.sc (.int .i64 14)))⟩,
  ⟨some 9, none, none, .objs [], .sl 6 (.v 4) none (some (.v 8)) none⟩,
  ⟨some 10, none, none, .objs [], .fa 1 (.v 1)⟩,
  ⟨some 11, none, none, .objs [(.v 10)], .ld false 1 (.v 10)⟩,
  ⟨some 12, none, none, .objs [], .fa 1 (.v 1)⟩,
  ⟨some 13, none, none, .objs [(.v 12)], .ld false 1 (.v 12)⟩,
  ⟨some 14, none, none, .objs [(.v 13)], .lenS (.v 13)⟩] ++ mkL [2, 9, 11, 14] ([
  ⟨some 15, none, none, .objs [], .mnx false (.v 14) (.c (.sc (.int .i64 26)))⟩,
  ⟨some 16, none, none, .objs [], .sl 2 (.v 11) none (some (.v 15)) none⟩,
  ⟨some 17, none, none, .objs [], .bd [(.sc (.slice none 0 0)), (.sc (.slice none 0 0))] [(0, 1, (.v 9)), (1, 1, (.v 16))]⟩,
  ⟨none, none, none, .objs [(.v 2)], .st 2 (.v 2) (.v 17)⟩]))) <|
  .ret

theorem il12_eq : cFn Try.prog pol 12 = some ⟨18, il12c, [(2, some (true, 2))]⟩ := by kernel_rfl

noncomputable def il13l0b : C :=
  .seq (.seq (.ops ([
  ⟨some 15, none, none, .objs [], .mv (.v 5)⟩,
  ⟨some 16, none, none, .objs [], .mv (.v 3)⟩,
  ⟨some 17, none, none, .objs [], .bin .lss false (.v 15) (.v 16)⟩])) <|
  .cond (.v 17) (.nop) (.exit 0)) <|
  .seq (.block 1 (.seq (.ops ([
    ⟨some 20, none, none, .objs [], .mv (.v 5)⟩,
    ⟨some 21, none, none, .objs [], .bin .add false (.v 20) (.c (.sc (.int .i64 1)))⟩,
    ⟨some 22, none, none, .objs [], .bd [(.sc (.int .i64 0)), (.sc (.int .i64 0)), (.sc (.int .i64 0)), (.sc (.int .i64 0)), (.sc (.int .i64 0)), (.sc (.int .i64 0))] [(0, 1, (.c (.sc (.int .i64 128)))), (5, 1, (.v 21))]⟩,
    ⟨some 6, none, none, .objs [], .nw 6 (.agg [(.sc (.int .i64 0)), (.sc (.int .i64 0)), (.sc (.int .i64 0)), (.sc (.int .i64 0)), (.sc (.int .i64 0)), (.sc (.int .i64 0))])⟩,
    ⟨none, none, none, .objs [], .st 6 (.v 6) (.v 22)⟩])) <|
    .seq (.seq (.ops ([
    ⟨some 23, none, none, .objs [], .fa 3 (.v 1)⟩,
    ⟨some 24, none, none, .objs [], .ld false 1 (.v 23)⟩])) <|
    .cond (.v 24) (.ops ([
      ⟨some 25, none, none, .objs [], .mv (.v 5)⟩,
      ⟨some 26, none, none, .objs [], .bin .sub false (.c (.sc (.int .i64 100))) (.v 25)⟩,
      ⟨some 27, none, none, .objs [], .fa 5 (.v 6)⟩,
      ⟨none, none, none, .objs [], .st 1 (.v 27) (.v 26)⟩])) (.nop)) <| mkC [1, 2, 3, 4, 5, 6] <|
    .seq (.seq (.ops ([
    ⟨some 28, none, none, .objs [], .mv (.v 5)⟩,
    ⟨some 29, none, none, .objs [], .fa 1 (.v 1)⟩,
    ⟨some 30, none, none, .objs [], .ld false 1 (.v 29)⟩,
    ⟨some 31, none, none, .objs [], .lenS (.v 30)⟩,
    ⟨some 32, none, none, .objs [], .bin .lss false (.v 28) (.v 31)⟩])) <|
    .cond (.v 32) (.seq (.ops ([
      ⟨some 33, none, none, .objs [], .fa 1 (.v 1)⟩,
      ⟨some 34, none, none, .objs [], .ld false 1 (.v 33)⟩,
      ⟨some 35, none, none, .objs [], .mv (.v 5)⟩,
      ⟨some 36, none, none, .objs [], .iaS 1 (.v 34) (.v 35)⟩,
      ⟨some 37, none, none, .objs [], .ld false 1 (.v 36)⟩,
      ⟨some 38, none, none, .objs [], .bin .rem false (.v 37) (.c (.sc (.int .u8 4)))⟩,
      ⟨some 39, none, none, .objs [], .cv .i64 (.v 38)⟩,
      ⟨some 40, none, none, .objs [], .fa 0 (.v 6)⟩,
      ⟨none, none, none, .objs [], .st 1 (.v 40) (.v 39)⟩])) <| mkC [1, 2, 3, 4, 5, 6] <|
      .ops ([
      ⟨some 41, none, none, .objs [], .fa 1 (.v 1)⟩,
      ⟨some 42, none, none, .objs [], .ld false 1 (.v 41)⟩,
      ⟨some 43, none, none, .objs [], .mv (.v 5)⟩,
      ⟨some 44, none, none, .objs [], .iaS 1 (.v 42) (.v 43)⟩,
      ⟨some 45, none, none, .objs [], .ld false 1 (.v 44)⟩,
      ⟨some 46, none, none, .objs [], .bin .quo false (.v 45) (.c (.sc (.int .u8 4)))⟩,
      ⟨some 47, none, none, .objs [], .cv .i64 (.v 46)⟩,
      ⟨some 48, none, none, .objs [], .fa 3 (.v 6)⟩,
      ⟨none, none, none, .objs [], .st 1 (.v 48) (.v 47)⟩])) (.nop)) <|
    .ops ([
    ⟨some 49, none, none, .objs [], .fa 0 (.v 4)⟩,
    ⟨some 50, none, none, .objs [], .ld false 1 (.v 49)⟩,
    ⟨some 51, none, none, .objs [], .ld true 6 (.v 6)⟩,
    ⟨some 52, none, none, .objs [], .bs false 6 (.agg [(.sc (.int .i64 0)), (.sc (.int .i64 0)), (.sc (.int .i64 0)), (.sc (.int .i64 0)), (.sc (.int .i64 0)), (.sc (.int .i64 0))]) 1 [(0, (.v 51))]⟩,
    ⟨some 53, none, none, .objs [], .app 6 48 (.v 50) (.v 52)⟩] ++ mkL [1, 2, 3, 4, 5, 53] ([
    ⟨some 54, none, none, .objs [], .fa 0 (.v 4)⟩,
    ⟨none, none, none, .objs [], .st 1 (.v 54) (.v 53)⟩])))) <|
  .ops ([
  ⟨some 18, none, none, .objs [], .mv (.v 5)⟩,
  ⟨some 19, none, none, .objs [], .bin .add false (.v 18) (.c (.sc (.int .i64 1)))⟩,
  ⟨some 5, none, none, .objs [], .mv (.v 19)⟩])
noncomputable def il13l0 : C := il13l0b
theorem il13l0_go {P : Program} {pol : Pol} {K : Oracle} {I : Inl} {n : Nat} {f : FuncId} {R : Xit → FEnv → Heap → Prop} {e : FEnv} {h : Heap} : wc P pol K I n f il13l0 R e h = wc P pol K I n f il13l0b R e h := (fun x => x) rfl

noncomputable def il13l1b : C :=
  .seq (.seq (.ops ([
  ⟨some 55, none, none, .objs [], .mv (.v 7)⟩,
  ⟨some 56, none, none, .objs [], .fa 2 (.v 1)⟩,
  ⟨some 57, none, none, .objs [], .ld false 1 (.v 56)⟩,
  ⟨some 58, none, none, .objs [], .lenS (.v 57)⟩,
  ⟨some 59, none, none, .objs [], .bin .lss false (.v 55) (.v 58)⟩,
  ⟨some 60, none, none, .objs [], .mv (.v 59)⟩,
  ⟨some 61, some (60, true), none, .objs [], .fa 1 (.v 4)⟩,
  ⟨some 62, some (60, true), none, .objs [], .ld false 1 (.v 61)⟩,
  ⟨some 63, some (60, true), none, .objs [], .lenS (.v 62)⟩,
  ⟨some 64, some (60, true), none, .objs [], .bin .lss false (.v 63) (.c (.sc (.int .i64 24)))⟩,
  ⟨some 65, none, none, .objs [], .pk (.v 60) (.v 64) (.c (.sc (.bool false)))⟩])) <|
  .cond (.v 65) (.nop) (.exit 2)) <|
  .seq (.block 3 (.seq (.opsD [(10, 18), (14, 18)] ([
    ⟨some 68, none, none, .objs [], .fa 2 (.v 1)⟩,
    ⟨some 69, none, none, .objs [(.v 68)], .ld false 1 (.v 68)⟩,
    ⟨some 70, none, none, .objs [], .mv (.v 7)⟩] ++ mkL [1, 2, 3, 4, 7, 69, 70] ([
    ⟨some 71, none, none, .objs [], .iaS 2 (.v 69) (.v 70)⟩,
    ⟨some 72, none, none, .objs [], .iaA 2 1 (.v 71) (.c (.sc (.int .i64 0)))⟩,
    ⟨some 73, none, none, .objs [(.v 72)], .ld false 1 (.v 72)⟩,
    ⟨some 74, none, none, .objs [], .cv .i64 (.v 73)⟩,
    ⟨some 75, none, none, .objs [], .mv (.v 3)⟩,
    ⟨some 76, none, none, .objs [], .bin .rem false (.v 74) (.v 75)⟩,
    ⟨some 77, none, none, .objs [], .fa 2 (.v 1)⟩,
    ⟨some 78, none, none, .objs [(.v 77)], .ld false 1 (.v 77)⟩,
    ⟨some 79, none, none, .objs [], .mv (.v 7)⟩,
    ⟨some 80, none, none, .objs [], .iaS 2 (.v 78) (.v 79)⟩,
    ⟨some 81, none, none, .objs [], .iaA 2 1 (.v 80) (.c (.sc (.int .i64 1)))⟩,
    ⟨some 82, none, none, .objs [(.v 81)], .ld false 1 (.v 81)⟩,
    ⟨some 83, none, none, .objs [], .cv .i64 (.v 82)⟩,
    ⟨some 84, none, none, .objs [], .mv (.v 3)⟩] ++ mkL [1, 2, 3, 4, 7, 76, 83, 84] ([
    ⟨some 85, none, none, .objs [], .bin .rem false (.v 83) (.v 84)⟩,
    ⟨some 8, none, none, .objs [], .mv (.v 76)⟩,
    ⟨some 9, none, none, .objs [], .mv (.v 85)⟩])))) <|
    .seq (.ops ([
    ⟨some 86, none, none, .objs [], .mv (.v 8)⟩,
    ⟨some 87, none, none, .objs [], .mv (.v 9)⟩,
    ⟨some 88, none, none, .objs [], .bin .neq false (.v 86) (.v 87)⟩])) <|
    .cond (.v 88) (.ops ([
      ⟨some 89, none, none, .objs [], .fa 1 (.v 4)⟩,
      ⟨some 90, none, none, .objs [], .ld false 1 (.v 89)⟩,
      ⟨some 91, none, none, .objs [], .mv (.v 8)⟩,
      ⟨some 92, none, none, .objs [], .mv (.v 9)⟩,
      ⟨some 93, none, none, .objs [], .bd [(.sc (.int .i64 0)), (.sc (.int .i64 0))] [(0, 1, (.v 91)), (1, 1, (.v 92))]⟩,
      ⟨some 94, none, none, .objs [], .bs false 2 (.agg [(.sc (.int .i64 0)), (.sc (.int .i64 0))]) 1 [(0, (.v 93))]⟩,
      ⟨some 95, none, none, .objs [], .app 2 16 (.v 90) (.v 94)⟩,
      ⟨some 96, none, none, .objs [], .fa 1 (.v 4)⟩] ++ mkL [1, 2, 3, 4, 7, 95, 96] ([
      ⟨none, none, none, .objs [], .st 1 (.v 96) (.v 95)⟩]))) (.nop))) <|
  .ops ([
  ⟨some 66, none, none, .objs [], .mv (.v 7)⟩,
  ⟨some 67, none, none, .objs [], .bin .add false (.v 66) (.c (.sc (.int .i64 1)))⟩,
  ⟨some 7, none, none, .objs [], .mv (.v 67)⟩])
noncomputable def il13l1 : C := il13l1b
theorem il13l1_go {P : Program} {pol : Pol} {K : Oracle} {I : Inl} {n : Nat} {f : FuncId} {R : Xit → FEnv → Heap → Prop} {e : FEnv} {h : Heap} : wc P pol K I n f il13l1 R e h = wc P pol K I n f il13l1b R e h := (fun x => x) rfl

/-- (isochron/isochronref11.Draft).Spread -/
noncomputable def il13c : C :=
  .seq (.ops ([
  ⟨some 1, none, none, .objs [], .bx false (.v 0)⟩,
  ⟨some 2, none, none, .objs [], .nw 2 (.agg [(.sc (.slice none 0 0)), (.sc (.slice none 0 0))])⟩])) <|
  .seq (.ops ([
  ⟨some 10, none, none, .objs [], .fa 0 (.v 1)⟩,
  ⟨some 11, none, none, .objs [], .ld false 1 (.v 10)⟩,
  ⟨some 12, none, none, .objs [], .bin .rem false (.v 11) (.c (.sc (.int .u8 12)))⟩,
  ⟨some 13, none, none, .objs [], .cv .i64 (.v 12)⟩,
  ⟨some 14, none, none, .objs [], .bin .add false (.c (.sc (.int .i64 1))) (.v 13)⟩,
  ⟨some 3, none, none, .objs [], .mv (.v 14)⟩])) <|
  .seq (.ops ([
  ⟨some 4, none, none, .objs [], .raw (opOf Try.prog 13 2 0)⟩])) <|
  .seq (.seq (.ops ([
  ⟨some 5, none, none, .objs [], .mv (.c (.sc (.int .i64 0)))⟩])) <|
  .block 0 (.loop (some [1, 2, 3, 4, 5]) il13l0)) <|
  .seq (.seq (.ops ([
  ⟨some 7, none, none, .objs [], .mv (.c (.sc (.int .i64 0)))⟩])) <|
  .block 2 (.loop (some [1, 2, 3, 4, 7]) il13l1)) <|
  .seq (.ops ([
  ⟨some 97, none, none, .objs [], .ld true 2 (.v 4)⟩,
  ⟨none, none, none, .objs [], .st 2 (.v 2) (.v 97)⟩])) <|
  .ret

theorem il13_eq : cFn Try.prog pol 13 = some ⟨98, il13c, [(2, some (true, 2))]⟩ := by kernel_rfl
theorem raw13_2_0 {e : FEnv} {h : Heap} : iStep Try.prog pol 13 e h (.raw (opOf Try.prog 13 2 0)) = grS [(0, 6), (1, 2)] h (growAV h.length [(0, 6), (1, 2)] ([(.sc (.slice none 0 0)), (.sc (.slice none 0 0))].map .t)) := raw_allocS (t := 25) (by kernel_rfl) (by kernel_rfl) (by kernel_rfl) (by kernel_rfl)

noncomputable def il14l0b : C :=
  .seq (.seq (.ops ([
  ⟨some 36, none, none, .objs [], .mv (.v 5)⟩,
  ⟨some 37, none, none, .objs [], .mv (.v 4)⟩,
  ⟨some 38, none, none, .objs [], .bin .lss false (.v 36) (.v 37)⟩])) <|
  .cond (.v 38) (.nop) (.exit 2)) <|
  .seq (.block 3 (.seq (.opsD [] ([
    ⟨some 41, none, none, .objs [], .fa 0 (.v 1)⟩,
    ⟨some 42, none, none, .objs [(.v 41)], .ld false 1 (.v 41)⟩,
    ⟨some 43, none, none, .objs [], .mv (.v 5)⟩,
    ⟨some 44, none, none, .objs [], .iaS 6 (.v 42) (.v 43)⟩,
    ⟨some 45, none, none, .objs [], .fa 5 (.v 44)⟩,
    ⟨some 46, none, none, .objs [(.v 45)], .ld false 1 (.v 45)⟩,
    ⟨some 47, none, none, .objs [], .fa 0 (.v 1)⟩,
    ⟨some 48, none, none, .objs [(.v 47)], .ld false 1 (.v 47)⟩,
    ⟨some 49, none, none, .objs [], .mv (.v 4)⟩,
    ⟨some 50, none, none, .objs [], .iaS 6 (.v 48) (.v 49)⟩,
    ⟨some 51, none, none, .objs [], .fa 5 (.v 50)⟩] ++ mkL [1, 3, 4, 5, 46, 51] ([
    ⟨some 52, none, none, .objs [(.v 51)], .ld false 1 (.v 51)⟩,
    ⟨some 53, none, none, .objs [], .bin .eql false (.v 46) (.v 52)⟩]))) <|
    .cond (.v 53) (.seq (.ops ([
      ⟨some 2, none, none, .objs [], .mv (.c (.sc (.bool false)))⟩])) <|
      .ret) (.nop))) <|
  .ops ([
  ⟨some 39, none, none, .objs [], .mv (.v 5)⟩,
  ⟨some 40, none, none, .objs [], .bin .add false (.v 39) (.c (.sc (.int .i64 1)))⟩,
  ⟨some 5, none, none, .objs [], .mv (.v 40)⟩])
noncomputable def il14l0 : C := il14l0b
theorem il14l0_go {P : Program} {pol : Pol} {K : Oracle} {I : Inl} {n : Nat} {f : FuncId} {R : Xit → FEnv → Heap → Prop} {e : FEnv} {h : Heap} : wc P pol K I n f il14l0 R e h = wc P pol K I n f il14l0b R e h := (fun x => x) rfl

noncomputable def il14l1b : C :=
  .seq (.seq (.ops ([
  ⟨some 24, none, none, .objs [], .mv (.v 4)⟩,
  ⟨some 25, none, none, .objs [], .mv (.v 3)⟩,
  ⟨some 26, none, none, .objs [], .bin .lss false (.v 24) (.v 25)⟩])) <|
  .cond (.v 26) (.nop) (.exit 0)) <|
  .seq (.block 1 (.seq (.seq (.ops ([
    ⟨some 29, none, none, .objs [], .fa 0 (.v 1)⟩,
    ⟨some 30, none, none, .objs [], .ld false 1 (.v 29)⟩,
    ⟨some 31, none, none, .objs [], .mv (.v 4)⟩,
    ⟨some 32, none, none, .objs [], .iaS 6 (.v 30) (.v 31)⟩,
    ⟨some 33, none, none, .objs [], .ld true 6 (.v 32)⟩,
    ⟨some 34, none, none, .objs [], .call (.c (.fn (.func 32) [] [])) [(.v 33)]⟩,
    ⟨some 35, none, none, .objs [], .nt (.v 34)⟩])) <|
    .cond (.v 35) (.seq (.ops ([
      ⟨some 2, none, none, .objs [], .mv (.c (.sc (.bool false)))⟩])) <|
      .ret) (.nop)) <|
    .seq (.ops ([
    ⟨some 5, none, none, .objs [], .mv (.c (.sc (.int .i64 0)))⟩])) <|
    .block 2 (.loop (some [1, 3, 4, 5]) il14l0))) <|
  .ops ([
  ⟨some 27, none, none, .objs [], .mv (.v 4)⟩,
  ⟨some 28, none, none, .objs [], .bin .add false (.v 27) (.c (.sc (.int .i64 1)))⟩,
  ⟨some 4, none, none, .objs [], .mv (.v 28)⟩])
noncomputable def il14l1 : C := il14l1b
theorem il14l1_go {P : Program} {pol : Pol} {K : Oracle} {I : Inl} {n : Nat} {f : FuncId} {R : Xit → FEnv → Heap → Prop} {e : FEnv} {h : Heap} : wc P pol K I n f il14l1 R e h = wc P pol K I n f il14l1b R e h := (fun x => x) rfl

noncomputable def il14l2b : C :=
  .seq (.seq (.ops ([
  ⟨some 54, none, none, .objs [], .mv (.v 6)⟩,
  ⟨some 55, none, none, .objs [], .fa 1 (.v 1)⟩,
  ⟨some 56, none, none, .objs [], .ld false 1 (.v 55)⟩,
  ⟨some 57, none, none, .objs [], .lenS (.v 56)⟩,
  ⟨some 58, none, none, .objs [], .bin .lss false (.v 54) (.v 57)⟩])) <|
  .cond (.v 58) (.nop) (.exit 4)) <|
  .seq (.block 5 (.seq (.opsD [(7, 12), (11, 12)] ([
    ⟨some 61, none, none, .objs [], .fa 1 (.v 1)⟩,
    ⟨some 62, none, none, .objs [(.v 61)], .ld false 1 (.v 61)⟩,
    ⟨some 63, none, none, .objs [], .mv (.v 6)⟩,
    ⟨some 64, none, none, .objs [], .iaS 2 (.v 62) (.v 63)⟩,
    ⟨some 65, none, none, .objs [], .iaA 2 1 (.v 64) (.c (.sc (.int .i64 0)))⟩,
    ⟨some 66, none, none, .objs [(.v 65)], .ld false 1 (.v 65)⟩,
    ⟨some 67, none, none, .objs [], .fa 1 (.v 1)⟩,
    ⟨some 68, none, none, .objs [(.v 67)], .ld false 1 (.v 67)⟩,
    ⟨some 69, none, none, .objs [], .mv (.v 6)⟩] ++ mkL [1, 3, 6, 66, 68, 69] ([
    ⟨some 70, none, none, .objs [], .iaS 2 (.v 68) (.v 69)⟩,
    ⟨some 71, none, none, .objs [], .iaA 2 1 (.v 70) (.c (.sc (.int .i64 1)))⟩,
    ⟨some 72, none, none, .objs [(.v 71)], .ld false 1 (.v 71)⟩,
    ⟨some 7, none, none, .objs [], .mv (.v 66)⟩,
    ⟨some 8, none, none, .objs [], .mv (.v 72)⟩]))) <|
    .seq (.ops ([
    ⟨some 73, none, none, .objs [], .mv (.v 7)⟩,
    ⟨some 74, none, none, .objs [], .bin .lss false (.v 73) (.c (.sc (.int .i64 0)))⟩,
    ⟨some 75, none, none, .objs [], .mv (.v 74)⟩,
    ⟨some 76, some (75, false), none, .objs [], .mv (.v 7)⟩,
    ⟨some 77, some (75, false), none, .objs [], .mv (.v 3)⟩,
    ⟨some 78, some (75, false), none, .objs [], .bin .geq false (.v 76) (.v 77)⟩,
    ⟨some 79, none, none, .objs [], .pk (.v 75) (.c (.sc (.bool true))) (.v 78)⟩,
    ⟨some 80, none, none, .objs [], .mv (.v 79)⟩,
    ⟨some 81, some (80, false), none, .objs [], .mv (.v 8)⟩] ++ mkL [1, 3, 6, 7, 8, 80, 81] ([
    ⟨some 82, some (80, false), none, .objs [], .bin .lss false (.v 81) (.c (.sc (.int .i64 0)))⟩,
    ⟨some 83, none, none, .objs [], .pk (.v 80) (.c (.sc (.bool true))) (.v 82)⟩,
    ⟨some 84, none, none, .objs [], .mv (.v 83)⟩,
    ⟨some 85, some (84, false), none, .objs [], .mv (.v 8)⟩,
    ⟨some 86, some (84, false), none, .objs [], .mv (.v 3)⟩,
    ⟨some 87, some (84, false), none, .objs [], .bin .geq false (.v 85) (.v 86)⟩,
    ⟨some 88, none, none, .objs [], .pk (.v 84) (.c (.sc (.bool true))) (.v 87)⟩,
    ⟨some 89, none, none, .objs [], .mv (.v 88)⟩,
    ⟨some 90, some (89, false), none, .objs [], .mv (.v 7)⟩,
    ⟨some 91, some (89, false), none, .objs [], .mv (.v 8)⟩,
    ⟨some 92, some (89, false), none, .objs [], .bin .eql false (.v 90) (.v 91)⟩,
    ⟨some 93, none, none, .objs [], .pk (.v 89) (.c (.sc (.bool true))) (.v 92)⟩]))) <|
    .cond (.v 93) (.seq (.ops ([
      ⟨some 2, none, none, .objs [], .mv (.c (.sc (.bool false)))⟩])) <|
      .ret) (.nop))) <|
  .ops ([
  ⟨some 59, none, none, .objs [], .mv (.v 6)⟩] ++ mkL [1, 3, 59] ([
  ⟨some 60, none, none, .objs [], .bin .add false (.v 59) (.c (.sc (.int .i64 1)))⟩,
  ⟨some 6, none, none, .objs [], .mv (.v 60)⟩]))
noncomputable def il14l2 : C := il14l2b
theorem il14l2_go {P : Program} {pol : Pol} {K : Oracle} {I : Inl} {n : Nat} {f : FuncId} {R : Xit → FEnv → Heap → Prop} {e : FEnv} {h : Heap} : wc P pol K I n f il14l2 R e h = wc P pol K I n f il14l2b R e h := (fun x => x) rfl

/-- isochron/isochronref11.Right -/
noncomputable def il14c : C :=
  .seq (.ops ([
  ⟨some 1, none, none, .objs [], .bx false (.v 0)⟩,
  ⟨some 2, none, none, .objs [], .mv (.c (.sc (.bool false)))⟩])) <|
  .seq (.ops ([
  ⟨some 9, none, none, .objs [], .fa 0 (.v 1)⟩,
  ⟨some 10, none, none, .objs [], .ld false 1 (.v 9)⟩,
  ⟨some 11, none, none, .objs [], .lenS (.v 10)⟩,
  ⟨some 3, none, none, .objs [], .mv (.v 11)⟩])) <|
  .seq (.seq (.ops ([
  ⟨some 12, none, none, .objs [], .mv (.v 3)⟩,
  ⟨some 13, none, none, .objs [], .bin .lss false (.v 12) (.c (.sc (.int .i64 1)))⟩,
  ⟨some 14, none, none, .objs [], .mv (.v 13)⟩,
  ⟨some 15, some (14, false), none, .objs [], .mv (.v 3)⟩,
  ⟨some 16, some (14, false), none, .objs [], .bin .gtr false (.v 15) (.c (.sc (.int .i64 12)))⟩,
  ⟨some 17, none, none, .objs [], .pk (.v 14) (.c (.sc (.bool true))) (.v 16)⟩,
  ⟨some 18, none, none, .objs [], .mv (.v 17)⟩,
  ⟨some 19, some (18, false), none, .objs [], .fa 1 (.v 1)⟩] ++ mkL [1, 3, 18, 19] ([
  ⟨some 20, some (18, false), none, .objs [], .ld false 1 (.v 19)⟩,
  ⟨some 21, some (18, false), none, .objs [], .lenS (.v 20)⟩,
  ⟨some 22, some (18, false), none, .objs [], .bin .gtr false (.v 21) (.c (.sc (.int .i64 24)))⟩,
  ⟨some 23, none, none, .objs [], .pk (.v 18) (.c (.sc (.bool true))) (.v 22)⟩]))) <|
  .cond (.v 23) (.seq (.ops ([
    ⟨some 2, none, none, .objs [], .mv (.c (.sc (.bool false)))⟩])) <|
    .ret) (.nop)) <|
  .seq (.seq (.ops ([
  ⟨some 4, none, none, .objs [], .mv (.c (.sc (.int .i64 0)))⟩])) <|
  .block 0 (.loop (some [1, 3, 4]) il14l1)) <|
  .seq (.seq (.ops ([
  ⟨some 6, none, none, .objs [], .mv (.c (.sc (.int .i64 0)))⟩])) <|
  .block 4 (.loop (some [1, 3, 6]) il14l2)) <|
  .seq (.ops ([
  ⟨some 2, none, none, .objs [], .mv (.c (.sc (.bool true)))⟩])) <|
  .ret

theorem il14_eq : cFn Try.prog pol 14 = some ⟨94, il14c, [(2, none)]⟩ := by kernel_rfl

noncomputable def il15l0b : C :=
  .seq (.ops ([
  ⟨some 39, none, none, .objs [], .bin .lss false (.v 38) (.v 37)⟩])) <|
  .seq (.cond (.v 39) (.nop) (.exit 2)) <|
  .seq (.block 3 (.seq (.ops ([
    ⟨some 40, none, none, .objs [], .iaS 6 (.v 36) (.v 38)⟩,
    ⟨some 41, none, none, .objs [], .ld true 6 (.v 40)⟩,
    ⟨some 7, none, none, .objs [], .nw 6 (.agg [(.sc (.int .i64 0)), (.sc (.int .i64 0)), (.sc (.int .i64 0)), (.sc (.int .i64 0)), (.sc (.int .i64 0)), (.sc (.int .i64 0))])⟩,
    ⟨none, none, none, .objs [], .st 6 (.v 7) (.v 41)⟩])) <|
    .seq (.ops ([
    ⟨some 42, none, none, .objs [], .fa 5 (.v 5)⟩,
    ⟨some 43, none, none, .objs [], .ld false 1 (.v 42)⟩,
    ⟨some 44, none, none, .objs [], .fa 5 (.v 7)⟩,
    ⟨some 45, none, none, .objs [], .ld false 1 (.v 44)⟩,
    ⟨some 46, none, none, .objs [], .bin .eql false (.v 43) (.v 45)⟩])) <|
    .cond (.v 46) (.seq (.ops ([
      ⟨some 2, none, none, .objs [], .mv (.c (.sc (.int .i64 210)))⟩])) <|
      .ret) (.nop))) <|
  .ops ([
  ⟨some 47, none, none, .objs [], .bin .add false (.v 38) (.c (.sc (.int .i64 1)))⟩,
  ⟨some 38, none, none, .objs [], .mv (.v 47)⟩])
noncomputable def il15l0 : C := il15l0b
theorem il15l0_go {P : Program} {pol : Pol} {K : Oracle} {I : Inl} {n : Nat} {f : FuncId} {R : Xit → FEnv → Heap → Prop} {e : FEnv} {h : Heap} : wc P pol K I n f il15l0 R e h = wc P pol K I n f il15l0b R e h := (fun x => x) rfl

noncomputable def il15l1b : C :=
  .seq (.ops ([
  ⟨some 26, none, none, .objs [], .bin .lss false (.v 25) (.v 24)⟩])) <|
  .seq (.cond (.v 26) (.nop) (.exit 0)) <|
  .seq (.block 1 (.seq (.ops ([
    ⟨some 27, none, none, .objs [], .mv (.v 25)⟩,
    ⟨some 28, none, none, .objs [], .iaS 6 (.v 23) (.v 25)⟩,
    ⟨some 29, none, none, .objs [], .ld true 6 (.v 28)⟩,
    ⟨some 5, none, none, .objs [], .nw 6 (.agg [(.sc (.int .i64 0)), (.sc (.int .i64 0)), (.sc (.int .i64 0)), (.sc (.int .i64 0)), (.sc (.int .i64 0)), (.sc (.int .i64 0))])⟩,
    ⟨some 4, none, none, .objs [], .mv (.v 27)⟩,
    ⟨none, none, none, .objs [], .st 6 (.v 5) (.v 29)⟩])) <|
    .seq (.seq (.ops ([
    ⟨some 30, none, none, .objs [], .ld true 6 (.v 5)⟩,
    ⟨some 31, none, none, .objs [], .call (.c (.fn (.func 34) [] [])) [(.v 30)]⟩,
    ⟨some 32, none, none, .objs [], .bin .neq false (.v 31) (.c (.sc (.int .i64 0)))⟩])) <|
    .cond (.v 32) (.seq (.ops ([
      ⟨some 2, none, none, .objs [], .mv (.c (.sc (.int .i64 210)))⟩])) <|
      .ret) (.nop)) <|
    .seq (.ops ([
    ⟨some 33, none, none, .objs [], .fa 0 (.v 1)⟩,
    ⟨some 34, none, none, .objs [], .ld false 1 (.v 33)⟩,
    ⟨some 35, none, none, .objs [], .mv (.v 4)⟩] ++ mkL [1, 3, 5, 23, 24, 25, 34, 35] ([
    ⟨some 36, none, none, .objs [], .sl 6 (.v 34) none (some (.v 35)) none⟩,
    ⟨some 37, none, none, .objs [], .lenS (.v 36)⟩,
    ⟨some 38, none, none, .objs [], .mv (.c (.sc (.int .i64 0)))⟩]))) <|
    .block 2 (.loop (some [1, 3, 5, 23, 24, 25, 36, 37, 38]) il15l0))) <|
  .ops ([
  ⟨some 48, none, none, .objs [], .bin .add false (.v 25) (.c (.sc (.int .i64 1)))⟩,
  ⟨some 25, none, none, .objs [], .mv (.v 48)⟩])
noncomputable def il15l1 : C := il15l1b
theorem il15l1_go {P : Program} {pol : Pol} {K : Oracle} {I : Inl} {n : Nat} {f : FuncId} {R : Xit → FEnv → Heap → Prop} {e : FEnv} {h : Heap} : wc P pol K I n f il15l1 R e h = wc P pol K I n f il15l1b R e h := (fun x => x) rfl

noncomputable def il15l2b : C :=
  .seq (.ops ([
  ⟨some 53, none, none, .objs [], .bin .lss false (.v 52) (.v 51)⟩])) <|
  .seq (.cond (.v 53) (.nop) (.exit 4)) <|
  .seq (.block 5 (.seq (.ops ([
    ⟨some 54, none, none, .objs [], .iaS 2 (.v 50) (.v 52)⟩,
    ⟨some 55, none, none, .objs [], .ld true 2 (.v 54)⟩,
    ⟨some 9, none, none, .objs [], .nw 2 (.agg [(.sc (.int .i64 0)), (.sc (.int .i64 0))])⟩,
    ⟨none, none, none, .objs [], .st 2 (.v 9) (.v 55)⟩])) <|
    .seq (.ops ([
    ⟨some 56, none, none, .objs [], .iaA 2 1 (.v 9) (.c (.sc (.int .i64 0)))⟩,
    ⟨some 57, none, none, .objs [], .ld false 1 (.v 56)⟩,
    ⟨some 58, none, none, .objs [], .mv (.v 3)⟩,
    ⟨some 59, none, none, .objs [], .bin .sub false (.v 58) (.c (.sc (.int .i64 1)))⟩,
    ⟨some 60, none, none, .objs [], .call (.c (.fn (.func 33) [] [])) [(.v 57), (.c (.sc (.int .i64 0))), (.v 59)]⟩,
    ⟨some 61, none, none, .objs [], .nt (.v 60)⟩,
    ⟨some 62, none, none, .objs [], .mv (.v 61)⟩,
    ⟨some 63, some (62, false), none, .objs [], .iaA 2 1 (.v 9) (.c (.sc (.int .i64 1)))⟩,
    ⟨some 64, some (62, false), none, .objs [], .ld false 1 (.v 63)⟩] ++ mkL [3, 9, 50, 51, 52, 62, 64] ([
    ⟨some 65, some (62, false), none, .objs [], .mv (.v 3)⟩,
    ⟨some 66, some (62, false), none, .objs [], .bin .sub false (.v 65) (.c (.sc (.int .i64 1)))⟩,
    ⟨some 67, some (62, false), none, .objs [], .call (.c (.fn (.func 33) [] [])) [(.v 64), (.c (.sc (.int .i64 0))), (.v 66)]⟩,
    ⟨some 68, some (62, false), none, .objs [], .nt (.v 67)⟩,
    ⟨some 69, none, none, .objs [], .pk (.v 62) (.c (.sc (.bool true))) (.v 68)⟩,
    ⟨some 70, none, none, .objs [], .mv (.v 69)⟩,
    ⟨some 71, some (70, false), none, .objs [], .iaA 2 1 (.v 9) (.c (.sc (.int .i64 0)))⟩,
    ⟨some 72, some (70, false), none, .objs [], .ld false 1 (.v 71)⟩,
    ⟨some 73, some (70, false), none, .objs [], .iaA 2 1 (.v 9) (.c (.sc (.int .i64 1)))⟩,
    ⟨some 74, some (70, false), none, .objs [], .ld false 1 (.v 73)⟩,
    ⟨some 75, some (70, false), none, .objs [], .bin .eql false (.v 72) (.v 74)⟩,
    ⟨some 76, none, none, .objs [], .pk (.v 70) (.c (.sc (.bool true))) (.v 75)⟩]))) <|
    .cond (.v 76) (.seq (.ops ([
      ⟨some 2, none, none, .objs [], .mv (.c (.sc (.int .i64 210)))⟩])) <|
      .ret) (.nop))) <|
  .ops ([
  ⟨some 77, none, none, .objs [], .bin .add false (.v 52) (.c (.sc (.int .i64 1)))⟩] ++ mkL [3, 50, 51, 77] ([
  ⟨some 52, none, none, .objs [], .mv (.v 77)⟩]))
noncomputable def il15l2 : C := il15l2b
theorem il15l2_go {P : Program} {pol : Pol} {K : Oracle} {I : Inl} {n : Nat} {f : FuncId} {R : Xit → FEnv → Heap → Prop} {e : FEnv} {h : Heap} : wc P pol K I n f il15l2 R e h = wc P pol K I n f il15l2b R e h := (fun x => x) rfl

/-- isochron/elect.Check -/
noncomputable def il15c : C :=
  .seq (.ops ([
  ⟨some 1, none, none, .objs [], .bx false (.v 0)⟩,
  ⟨some 2, none, none, .objs [], .mv (.c (.sc (.int .i64 0)))⟩])) <|
  .seq (.ops ([
  ⟨some 10, none, none, .objs [], .fa 0 (.v 1)⟩,
  ⟨some 11, none, none, .objs [], .ld false 1 (.v 10)⟩,
  ⟨some 12, none, none, .objs [], .lenS (.v 11)⟩,
  ⟨some 3, none, none, .objs [], .mv (.v 12)⟩])) <|
  .seq (.seq (.ops ([
  ⟨some 13, none, none, .objs [], .mv (.v 3)⟩,
  ⟨some 14, none, none, .objs [], .call (.c (.fn (.func 33) [] [])) [(.v 13), (.c (.sc (.int .i64 1))), (.c (.sc (.int .i64 12)))]⟩,
  ⟨some 15, none, none, .objs [], .nt (.v 14)⟩,
  ⟨some 16, none, none, .objs [], .mv (.v 15)⟩,
  ⟨some 17, some (16, false), none, .objs [], .fa 1 (.v 1)⟩,
  ⟨some 18, some (16, false), none, .objs [], .ld false 1 (.v 17)⟩,
  ⟨some 19, some (16, false), none, .objs [], .lenS (.v 18)⟩,
  ⟨some 20, some (16, false), none, .objs [], .bin .gtr false (.v 19) (.c (.sc (.int .i64 24)))⟩] ++ mkL [1, 3, 16, 20] ([
  ⟨some 21, none, none, .objs [], .pk (.v 16) (.c (.sc (.bool true))) (.v 20)⟩]))) <|
  .cond (.v 21) (.seq (.ops ([
    ⟨some 2, none, none, .objs [], .mv (.c (.sc (.int .i64 210)))⟩])) <|
    .ret) (.nop)) <|
  .seq (.seq (.ops ([
  ⟨some 22, none, none, .objs [], .fa 0 (.v 1)⟩,
  ⟨some 23, none, none, .objs [], .ld false 1 (.v 22)⟩,
  ⟨some 24, none, none, .objs [], .lenS (.v 23)⟩,
  ⟨some 25, none, none, .objs [], .mv (.c (.sc (.int .i64 0)))⟩])) <|
  .block 0 (.loop (some [1, 3, 23, 24, 25]) il15l1)) <|
  .seq (.seq (.ops ([
  ⟨some 49, none, none, .objs [], .fa 1 (.v 1)⟩,
  ⟨some 50, none, none, .objs [], .ld false 1 (.v 49)⟩,
  ⟨some 51, none, none, .objs [], .lenS (.v 50)⟩,
  ⟨some 52, none, none, .objs [], .mv (.c (.sc (.int .i64 0)))⟩])) <|
  .block 4 (.loop (some [3, 50, 51, 52]) il15l2)) <|
  .seq (.ops ([
  ⟨some 2, none, none, .objs [], .mv (.c (.sc (.int .i64 0)))⟩])) <|
  .ret

theorem il15_eq : cFn Try.prog pol 15 = some ⟨78, il15c, [(2, none)]⟩ := by kernel_rfl

/-- isochron/elect.Own -/
noncomputable def il16c : C :=
  .seq (.ops ([
  ⟨some 2, none, none, .objs [], .bx false (.v 0)⟩,
  ⟨some 4, none, none, .objs [], .nw 9 (.agg [(.sc (.int .i64 0)), (.sc (.int .i64 0)), (.sc (.int .i64 0)), (.sc (.int .i64 0)), (.sc (.int .i64 0)), (.sc (.int .i64 0)), (.sc (.int .i64 0)), (.sc (.int .i64 0)), (.sc (.int .i64 0))])⟩,
  ⟨some 5, none, none, .objs [], .mv (.c (.sc (.int .i64 0)))⟩])) <|
  .seq (.seq (.ops ([
  ⟨some 7, none, none, .objs [], .ld true 2 (.v 2)⟩,
  ⟨some 8, none, none, .objs [], .call (.c (.fn (.func 15) [] [])) [(.v 7)]⟩,
  ⟨some 6, none, none, .objs [], .mv (.v 8)⟩])) <|
  .seq (.ops ([
  ⟨some 9, none, none, .objs [], .mv (.v 6)⟩,
  ⟨some 10, none, none, .objs [], .bin .neq false (.v 9) (.c (.sc (.int .i64 0)))⟩])) <|
  .cond (.v 10) (.seq (.ops ([
    ⟨some 11, none, none, .objs [], .bd [(.sc (.int .i64 0)), (.sc (.int .i64 0)), (.sc (.int .i64 0)), (.sc (.int .i64 0)), (.sc (.int .i64 0)), (.sc (.int .i64 0)), (.sc (.int .i64 0)), (.sc (.int .i64 0)), (.sc (.int .i64 0))] []⟩,
    ⟨some 12, none, none, .objs [], .mv (.v 6)⟩,
    ⟨none, none, none, .objs [], .st 9 (.v 4) (.v 11)⟩,
    ⟨some 5, none, none, .objs [], .mv (.v 12)⟩])) <|
    .ret) (.nop)) <|
  .seq (.seq (.ops ([
  ⟨some 13, none, none, .objs [], .mv (.v 1)⟩,
  ⟨some 14, none, none, .objs [], .fa 0 (.v 2)⟩] ++ mkL [1, 2, 4, 13, 14] ([
  ⟨some 15, none, none, .objs [], .ld false 1 (.v 14)⟩,
  ⟨some 16, none, none, .objs [], .lenS (.v 15)⟩,
  ⟨some 17, none, none, .objs [], .bin .sub false (.v 16) (.c (.sc (.int .i64 1)))⟩,
  ⟨some 18, none, none, .objs [], .call (.c (.fn (.func 33) [] [])) [(.v 13), (.c (.sc (.int .i64 0))), (.v 17)]⟩,
  ⟨some 19, none, none, .objs [], .nt (.v 18)⟩]))) <|
  .cond (.v 19) (.seq (.ops ([
    ⟨some 20, none, none, .objs [], .bd [(.sc (.int .i64 0)), (.sc (.int .i64 0)), (.sc (.int .i64 0)), (.sc (.int .i64 0)), (.sc (.int .i64 0)), (.sc (.int .i64 0)), (.sc (.int .i64 0)), (.sc (.int .i64 0)), (.sc (.int .i64 0))] []⟩,
    ⟨none, none, none, .objs [], .st 9 (.v 4) (.v 20)⟩,
    ⟨some 5, none, none, .objs [], .mv (.c (.sc (.int .i64 2)))⟩])) <|
    .ret) (.nop)) <|
  .seq (.ops ([
  ⟨some 21, none, none, .objs [], .ld true 2 (.v 2)⟩,
  ⟨some 22, none, none, .objs [], .mv (.v 1)⟩,
  ⟨some 23, none, none, .objs [], .call (.c (.fn (.func 35) [] [])) [(.v 21), (.v 22)]⟩,
  ⟨none, none, none, .objs [], .st 9 (.v 4) (.v 23)⟩,
  ⟨some 5, none, none, .objs [], .mv (.c (.sc (.int .i64 0)))⟩])) <|
  .ret

theorem il16_eq : cFn Try.prog pol 16 = some ⟨24, il16c, [(4, some (true, 9)), (5, none)]⟩ := by kernel_rfl

/-- isochron/isochronref11.Own -/
noncomputable def il17c : C :=
  .seq (.ops ([
  ⟨some 2, none, none, .objs [], .bx false (.v 0)⟩,
  ⟨some 4, none, none, .objs [], .nw 9 (.agg [(.sc (.int .i64 0)), (.sc (.int .i64 0)), (.sc (.int .i64 0)), (.sc (.int .i64 0)), (.sc (.int .i64 0)), (.sc (.int .i64 0)), (.sc (.int .i64 0)), (.sc (.int .i64 0)), (.sc (.int .i64 0))])⟩])) <|
  .seq (.ops ([
  ⟨some 5, none, none, .objs [], .fa 0 (.v 2)⟩,
  ⟨some 6, none, none, .objs [], .ld false 1 (.v 5)⟩,
  ⟨some 7, none, none, .objs [], .mv (.v 1)⟩,
  ⟨some 8, none, none, .objs [], .iaS 6 (.v 6) (.v 7)⟩,
  ⟨some 9, none, none, .objs [], .ld true 6 (.v 8)⟩,
  ⟨some 10, none, none, .objs [], .mv (.v 1)⟩,
  ⟨some 11, none, none, .objs [], .bd [(.sc (.int .i64 0)), (.sc (.int .i64 0)), (.sc (.int .i64 0)), (.sc (.int .i64 0)), (.sc (.int .i64 0)), (.sc (.int .i64 0)), (.sc (.int .i64 0)), (.sc (.int .i64 0)), (.sc (.int .i64 0))] [(0, 6, (.v 9)), (7, 1, (.v 10)), (8, 1, (.c (.sc (.int .i64 (-1)))))]⟩,
  ⟨none, none, none, .objs [], .st 9 (.v 4) (.v 11)⟩])) <|
  .ret

theorem il17_eq : cFn Try.prog pol 17 = some ⟨12, il17c, [(4, some (true, 9))]⟩ := by kernel_rfl

/-- isochron/elect.Compare -/
noncomputable def il18c : C :=
  .seq (.ops ([
  ⟨some 2, none, none, .objs [], .bx false (.v 0)⟩,
  ⟨some 3, none, none, .objs [], .bx false (.v 1)⟩,
  ⟨some 4, none, none, .objs [], .mv (.c (.sc (.int .i64 0)))⟩])) <|
  .seq (.ops ([
  ⟨some 5, none, none, .objs [], .ld true 9 (.v 2)⟩,
  ⟨some 6, none, none, .objs [], .ld true 9 (.v 3)⟩,
  ⟨some 7, none, none, .objs [], .call (.c (.fn (.func 36) [] [])) [(.v 5), (.v 6)]⟩,
  ⟨some 4, none, none, .objs [], .mv (.v 7)⟩])) <|
  .ret

theorem il18_eq : cFn Try.prog pol 18 = some ⟨8, il18c, [(4, none)]⟩ := by kernel_rfl

noncomputable def il19l0b : C :=
  .seq (.seq (.ops ([
  ⟨some 32, none, none, .objs [], .mv (.v 7)⟩,
  ⟨some 33, none, none, .objs [], .bin .lss false (.v 32) (.c (.sc (.int .i64 3)))⟩])) <|
  .cond (.v 33) (.nop) (.exit 0)) <|
  .seq (.block 1 (.seq (.seq (.opsD [] ([
    ⟨some 36, none, none, .objs [], .mv (.v 7)⟩,
    ⟨some 37, none, none, .objs [], .iaA 3 1 (.v 5) (.v 36)⟩,
    ⟨some 38, none, none, .objs [(.v 37)], .ld false 1 (.v 37)⟩,
    ⟨some 39, none, none, .objs [], .mv (.v 7)⟩,
    ⟨some 40, none, none, .objs [], .iaA 3 1 (.v 6) (.v 39)⟩,
    ⟨some 41, none, none, .objs [(.v 40)], .ld false 1 (.v 40)⟩,
    ⟨some 42, none, none, .objs [], .bin .lss false (.v 38) (.v 41)⟩])) <|
    .cond (.v 42) (.seq (.ops ([
      ⟨some 4, none, none, .objs [], .mv (.c (.sc (.int .i64 (-1))))⟩])) <|
      .ret) (.nop)) <|
    .seq (.opsD [] ([
    ⟨some 43, none, none, .objs [], .mv (.v 7)⟩,
    ⟨some 44, none, none, .objs [], .iaA 3 1 (.v 5) (.v 43)⟩,
    ⟨some 45, none, none, .objs [(.v 44)], .ld false 1 (.v 44)⟩,
    ⟨some 46, none, none, .objs [], .mv (.v 7)⟩] ++ mkL [5, 6, 7, 45, 46] ([
    ⟨some 47, none, none, .objs [], .iaA 3 1 (.v 6) (.v 46)⟩,
    ⟨some 48, none, none, .objs [(.v 47)], .ld false 1 (.v 47)⟩,
    ⟨some 49, none, none, .objs [], .bin .gtr false (.v 45) (.v 48)⟩]))) <|
    .cond (.v 49) (.seq (.ops ([
      ⟨some 4, none, none, .objs [], .mv (.c (.sc (.int .i64 1)))⟩])) <|
      .ret) (.nop))) <|
  .ops ([
  ⟨some 34, none, none, .objs [], .mv (.v 7)⟩,
  ⟨some 35, none, none, .objs [], .bin .add false (.v 34) (.c (.sc (.int .i64 1)))⟩,
  ⟨some 7, none, none, .objs [], .mv (.v 35)⟩])
noncomputable def il19l0 : C := il19l0b
theorem il19l0_go {P : Program} {pol : Pol} {K : Oracle} {I : Inl} {n : Nat} {f : FuncId} {R : Xit → FEnv → Heap → Prop} {e : FEnv} {h : Heap} : wc P pol K I n f il19l0 R e h = wc P pol K I n f il19l0b R e h := (fun x => x) rfl

/-- isochron/isochronref11.Compare -/
noncomputable def il19c : C :=
  .seq (.ops ([
  ⟨some 2, none, none, .objs [], .bx false (.v 0)⟩,
  ⟨some 3, none, none, .objs [], .bx false (.v 1)⟩,
  ⟨some 4, none, none, .objs [], .mv (.c (.sc (.int .i64 0)))⟩])) <|
  .seq (.seq (.ops ([
  ⟨some 8, none, none, .objs [], .fa 0 (.v 2)⟩,
  ⟨some 9, none, none, .objs [], .ld true 6 (.v 8)⟩,
  ⟨some 10, none, none, .objs [], .fa 0 (.v 3)⟩,
  ⟨some 11, none, none, .objs [], .ld true 6 (.v 10)⟩,
  ⟨some 12, none, none, .objs [], .call (.c (.fn (.func 37) [] [])) [(.v 9), (.v 11)]⟩])) <|
  .cond (.v 12) (.seq (.ops ([
    ⟨some 4, none, none, .objs [], .mv (.c (.sc (.int .i64 (-1))))⟩])) <|
    .ret) (.nop)) <|
  .seq (.seq (.ops ([
  ⟨some 13, none, none, .objs [], .fa 0 (.v 3)⟩,
  ⟨some 14, none, none, .objs [], .ld true 6 (.v 13)⟩,
  ⟨some 15, none, none, .objs [], .fa 0 (.v 2)⟩,
  ⟨some 16, none, none, .objs [], .ld true 6 (.v 15)⟩,
  ⟨some 17, none, none, .objs [], .call (.c (.fn (.func 37) [] [])) [(.v 14), (.v 16)]⟩])) <| mkC [2, 3, 17] <|
  .cond (.v 17) (.seq (.ops ([
    ⟨some 4, none, none, .objs [], .mv (.c (.sc (.int .i64 1)))⟩])) <|
    .ret) (.nop)) <|
  .seq (.ops ([
  ⟨some 18, none, none, .objs [], .fa 6 (.v 2)⟩,
  ⟨some 19, none, none, .objs [], .ld false 1 (.v 18)⟩,
  ⟨some 20, none, none, .objs [], .fa 7 (.v 2)⟩,
  ⟨some 21, none, none, .objs [], .ld false 1 (.v 20)⟩,
  ⟨some 22, none, none, .objs [], .fa 8 (.v 2)⟩,
  ⟨some 23, none, none, .objs [], .ld false 1 (.v 22)⟩,
  ⟨some 24, none, none, .objs [], .bd [(.sc (.int .i64 0)), (.sc (.int .i64 0)), (.sc (.int .i64 0))] [(0, 1, (.v 19)), (1, 1, (.v 21)), (2, 1, (.v 23))]⟩,
  ⟨some 5, none, none, .objs [], .nw 3 (.agg [(.sc (.int .i64 0)), (.sc (.int .i64 0)), (.sc (.int .i64 0))])⟩,
  ⟨none, none, none, .objs [], .st 3 (.v 5) (.v 24)⟩])) <|
  .seq (.ops ([
  ⟨some 25, none, none, .objs [], .fa 6 (.v 3)⟩,
  ⟨some 26, none, none, .objs [], .ld false 1 (.v 25)⟩,
  ⟨some 27, none, none, .objs [], .fa 7 (.v 3)⟩,
  ⟨some 28, none, none, .objs [], .ld false 1 (.v 27)⟩] ++ mkL [3, 5, 26, 28] ([
  ⟨some 29, none, none, .objs [], .fa 8 (.v 3)⟩,
  ⟨some 30, none, none, .objs [], .ld false 1 (.v 29)⟩,
  ⟨some 31, none, none, .objs [], .bd [(.sc (.int .i64 0)), (.sc (.int .i64 0)), (.sc (.int .i64 0))] [(0, 1, (.v 26)), (1, 1, (.v 28)), (2, 1, (.v 30))]⟩,
  ⟨some 6, none, none, .objs [], .nw 3 (.agg [(.sc (.int .i64 0)), (.sc (.int .i64 0)), (.sc (.int .i64 0))])⟩,
  ⟨none, none, none, .objs [], .st 3 (.v 6) (.v 31)⟩]))) <|
  .seq (.seq (.ops ([
  ⟨some 7, none, none, .objs [], .mv (.c (.sc (.int .i64 0)))⟩])) <|
  .block 0 (.loop (some [5, 6, 7]) il19l0)) <|
  .seq (.ops ([
  ⟨some 4, none, none, .objs [], .mv (.c (.sc (.int .i64 0)))⟩])) <|
  .ret

theorem il19_eq : cFn Try.prog pol 19 = some ⟨50, il19c, [(4, none)]⟩ := by kernel_rfl

noncomputable def il20l0b : C :=
  .seq (.ops ([
  ⟨some 20, none, none, .objs [], .bin .lss false (.v 19) (.v 18)⟩])) <|
  .seq (.cond (.v 20) (.nop) (.exit 0)) <|
  .seq (.block 1 (.seq (.ops ([
    ⟨some 21, none, none, .objs [], .mv (.v 19)⟩,
    ⟨some 6, none, none, .objs [], .mv (.v 21)⟩])) <|
    .opsD [(0, 4)] ([
    ⟨some 22, none, none, .objs [(.v 5)], .ld false 1 (.v 5)⟩,
    ⟨some 23, none, none, .objs [], .mv (.v 6)⟩,
    ⟨some 24, none, none, .objs [(.v 1)], .ld true 2 (.v 1)⟩,
    ⟨some 25, none, none, .objs [], .mv (.v 6)⟩,
    ⟨some 26, none, none, .cal (.c (.fn (.func 35) [] [])) [(.v 24), (.v 25)], .call (.c (.fn (.func 35) [] [])) [(.v 24), (.v 25)]⟩,
    ⟨some 27, none, none, .objs [], .iaS 9 (.v 22) (.v 23)⟩,
    ⟨none, none, none, .objs [(.v 27)], .st 9 (.v 27) (.v 26)⟩]))) <|
  .ops ([
  ⟨some 28, none, none, .objs [], .bin .add false (.v 19) (.c (.sc (.int .i64 1)))⟩,
  ⟨some 19, none, none, .objs [], .mv (.v 28)⟩])
noncomputable def il20l0 : C := il20l0b
theorem il20l0_go {P : Program} {pol : Pol} {K : Oracle} {I : Inl} {n : Nat} {f : FuncId} {R : Xit → FEnv → Heap → Prop} {e : FEnv} {h : Heap} : wc P pol K I n f il20l0 R e h = wc P pol K I n f il20l0b R e h := (fun x => x) rfl

noncomputable def il20l1b : C :=
  .seq (.ops ([
  ⟨some 31, none, none, .objs [], .bin .lss false (.v 30) (.c (.sc (.int .i64 12)))⟩])) <|
  .seq (.cond (.v 31) (.nop) (.exit 2)) <|
  .seq (.block 3 (.ops ([
    ⟨some 32, none, none, .objs [], .mv (.v 7)⟩,
    ⟨some 33, none, none, .objs [], .call (.v 32) []⟩]))) <|
  .ops ([
  ⟨some 34, none, none, .objs [], .bin .add false (.v 30) (.c (.sc (.int .i64 1)))⟩,
  ⟨some 30, none, none, .objs [], .mv (.v 34)⟩])
noncomputable def il20l1 : C := il20l1b
theorem il20l1_go {P : Program} {pol : Pol} {K : Oracle} {I : Inl} {n : Nat} {f : FuncId} {R : Xit → FEnv → Heap → Prop} {e : FEnv} {h : Heap} : wc P pol K I n f il20l1 R e h = wc P pol K I n f il20l1b R e h := (fun x => x) rfl

/-- isochron/elect.Elect -/
noncomputable def il20c : C :=
  .seq (.ops ([
  ⟨some 1, none, none, .objs [], .bx false (.v 0)⟩,
  ⟨some 2, none, none, .objs [], .mv (.c (.sc (.slice none 0 0)))⟩,
  ⟨some 3, none, none, .objs [], .mv (.c (.sc (.int .i64 0)))⟩])) <|
  .seq (.seq (.ops ([
  ⟨some 8, none, none, .objs [], .ld true 2 (.v 1)⟩,
  ⟨some 9, none, none, .objs [], .call (.c (.fn (.func 15) [] [])) [(.v 8)]⟩,
  ⟨some 4, none, none, .objs [], .mv (.v 9)⟩])) <|
  .seq (.ops ([
  ⟨some 10, none, none, .objs [], .mv (.v 4)⟩,
  ⟨some 11, none, none, .objs [], .bin .neq false (.v 10) (.c (.sc (.int .i64 0)))⟩])) <|
  .cond (.v 11) (.seq (.ops ([
    ⟨some 12, none, none, .objs [], .mv (.v 4)⟩,
    ⟨some 2, none, none, .objs [], .mv (.c (.sc (.slice none 0 0)))⟩,
    ⟨some 3, none, none, .objs [], .mv (.v 12)⟩])) <|
    .ret) (.nop)) <|
  .seq (.ops ([
  ⟨some 13, none, none, .objs [], .fa 0 (.v 1)⟩,
  ⟨some 14, none, none, .objs [], .ld false 1 (.v 13)⟩,
  ⟨some 15, none, none, .objs [], .lenS (.v 14)⟩] ++ mkL [1, 15, 15] ([
  ⟨some 16, none, none, .objs [], .raw (opOf Try.prog 20 4 3)⟩,
  ⟨some 5, none, none, .objs [], .nw 1 (.sc (.slice none 0 0))⟩,
  ⟨none, none, none, .objs [], .st 1 (.v 5) (.v 16)⟩]))) <|
  .seq (.seq (.ops ([
  ⟨some 17, none, none, .objs [], .ld false 1 (.v 5)⟩,
  ⟨some 18, none, none, .objs [], .lenS (.v 17)⟩,
  ⟨some 19, none, none, .objs [], .mv (.c (.sc (.int .i64 0)))⟩])) <|
  .block 0 (.loop (some [1, 5, 18, 19]) il20l0)) <|
  .seq (.ops ([
  ⟨some 29, none, none, .objs [], .fn 38 [] [(.v 1), (.v 5)]⟩,
  ⟨some 7, none, none, .objs [], .mv (.v 29)⟩])) <|
  .seq (.seq (.ops ([
  ⟨some 30, none, none, .objs [], .mv (.c (.sc (.int .i64 0)))⟩])) <|
  .block 2 (.loop (some [5, 7, 30]) il20l1)) <|
  .seq (.ops ([
  ⟨some 35, none, none, .objs [], .ld false 1 (.v 5)⟩,
  ⟨some 2, none, none, .objs [], .mv (.v 35)⟩,
  ⟨some 3, none, none, .objs [], .mv (.c (.sc (.int .i64 0)))⟩])) <|
  .ret

theorem il20_eq : cFn Try.prog pol 20 = some ⟨36, il20c, [(2, none), (3, none)]⟩ := by kernel_rfl
theorem raw20_4_3 {e : FEnv} {h : Heap} : iStep Try.prog pol 20 e h (.raw (opOf Try.prog 20 4 3)) = mkSl 9 72 (.agg [(.sc (.int .i64 0)), (.sc (.int .i64 0)), (.sc (.int .i64 0)), (.sc (.int .i64 0)), (.sc (.int .i64 0)), (.sc (.int .i64 0)), (.sc (.int .i64 0)), (.sc (.int .i64 0)), (.sc (.int .i64 0))]) h (asNat (Src.get e (.v 15))) (asNat (Src.get e (.v 15))) := raw_makeSlice (t := 47) (l := (.tmp 15)) (c := (.tmp 15)) (elem := 33) (by kernel_rfl) (by kernel_rfl) (by kernel_rfl) (by kernel_rfl) (by kernel_rfl) (by kernel_rfl)

noncomputable def il21l0b : C :=
  .seq (.seq (.ops ([
  ⟨some 11, none, none, .objs [], .mv (.v 5)⟩,
  ⟨some 12, none, none, .objs [], .mv (.v 0)⟩,
  ⟨some 13, none, none, .objs [], .lenS (.v 12)⟩,
  ⟨some 14, none, none, .objs [], .bin .lss false (.v 11) (.v 13)⟩])) <|
  .cond (.v 14) (.nop) (.exit 0)) <|
  .seq (.block 1 (.seq (.opsD [] ([
    ⟨some 17, none, none, .objs [], .mv (.v 0)⟩,
    ⟨some 18, none, none, .objs [], .mv (.v 5)⟩,
    ⟨some 19, none, none, .objs [], .iaS 9 (.v 17) (.v 18)⟩,
    ⟨some 20, none, none, .objs [(.v 19)], .ld true 9 (.v 19)⟩,
    ⟨some 21, none, none, .objs [], .mv (.v 1)⟩,
    ⟨some 22, none, none, .objs [], .mv (.v 5)⟩,
    ⟨some 23, none, none, .objs [], .iaS 9 (.v 21) (.v 22)⟩,
    ⟨some 24, none, none, .objs [(.v 23)], .ld true 9 (.v 23)⟩,
    ⟨some 25, none, none, .objs [], .raw (opOf Try.prog 21 6 8)⟩])) <|
    .cond (.v 25) (.seq (.ops ([
      ⟨some 4, none, none, .objs [], .mv (.c (.sc (.bool false)))⟩])) <|
      .ret) (.nop))) <| mkC [0, 1, 5] <|
  .ops ([
  ⟨some 15, none, none, .objs [], .mv (.v 5)⟩,
  ⟨some 16, none, none, .objs [], .bin .add false (.v 15) (.c (.sc (.int .i64 1)))⟩,
  ⟨some 5, none, none, .objs [], .mv (.v 16)⟩])
noncomputable def il21l0 : C := il21l0b
theorem il21l0_go {P : Program} {pol : Pol} {K : Oracle} {I : Inl} {n : Nat} {f : FuncId} {R : Xit → FEnv → Heap → Prop} {e : FEnv} {h : Heap} : wc P pol K I n f il21l0 R e h = wc P pol K I n f il21l0b R e h := (fun x => x) rfl

/-- isochron/isochronref11.Same -/
noncomputable def il21c : C :=
  .seq (.ops ([
  ⟨some 4, none, none, .objs [], .mv (.c (.sc (.bool false)))⟩])) <|
  .seq (.seq (.ops ([
  ⟨some 6, none, none, .objs [], .mv (.v 0)⟩,
  ⟨some 7, none, none, .objs [], .lenS (.v 6)⟩,
  ⟨some 8, none, none, .objs [], .mv (.v 1)⟩,
  ⟨some 9, none, none, .objs [], .lenS (.v 8)⟩,
  ⟨some 10, none, none, .objs [], .bin .neq false (.v 7) (.v 9)⟩])) <|
  .cond (.v 10) (.seq (.ops ([
    ⟨some 4, none, none, .objs [], .mv (.c (.sc (.bool false)))⟩])) <|
    .ret) (.nop)) <|
  .seq (.seq (.ops ([
  ⟨some 5, none, none, .objs [], .mv (.c (.sc (.int .i64 0)))⟩])) <|
  .block 0 (.loop (some [0, 1, 5]) il21l0)) <|
  .seq (.ops ([
  ⟨some 4, none, none, .objs [], .mv (.c (.sc (.bool true)))⟩])) <|
  .ret

theorem il21_eq : cFn Try.prog pol 21 = some ⟨26, il21c, [(4, none)]⟩ := by kernel_rfl
theorem raw21_6_8 {e : FEnv} {h : Heap} : iStep Try.prog pol 21 e h (.raw (opOf Try.prog 21 6 8)) = vOf h (binE Try.prog true 33 (.tmp 20) (.tmp 24) (Src.get e (.v 20)) (Src.get e (.v 24))) := raw_neq (x := (.tmp 20)) (y := (.tmp 24)) (s := 33) (by kernel_rfl)

noncomputable def il22l0b : C :=
  .seq (.seq (.ops ([
  ⟨some 24, none, none, .objs [], .mv (.v 7)⟩,
  ⟨some 25, none, none, .objs [], .mv (.v 5)⟩,
  ⟨some 26, none, none, .objs [], .lenS (.v 25)⟩,
  ⟨some 27, none, none, .objs [], .bin .lss false (.v 24) (.v 26)⟩])) <|
  .cond (.v 27) (.nop) (.exit 2)) <|
  .seq (.block 3 (.seq (.opsD [] ([
    ⟨some 30, none, none, .objs [], .mv (.v 5)⟩,
    ⟨some 31, none, none, .objs [], .mv (.v 7)⟩,
    ⟨some 32, none, none, .objs [], .iaS 1 (.v 30) (.v 31)⟩,
    ⟨some 33, none, none, .objs [(.v 32)], .ld false 1 (.v 32)⟩,
    ⟨some 34, none, none, .objs [], .bin .geq false (.v 33) (.c (.sc (.int .i64 0)))⟩,
    ⟨some 35, none, none, .objs [], .mv (.v 34)⟩,
    ⟨some 36, some (35, true), none, .objs [], .fa 0 (.v 1)⟩,
    ⟨some 37, some (35, true), none, .objs [(.v 36)], .ld false 1 (.v 36)⟩,
    ⟨some 38, some (35, true), none, .objs [], .mv (.v 7)⟩,
    ⟨some 39, some (35, true), none, .objs [], .iaS 6 (.v 37) (.v 38)⟩] ++ mkL [1, 3, 4, 5, 6, 7, 35, 39] ([
    ⟨some 40, some (35, true), none, .objs [(.v 39)], .ld true 6 (.v 39)⟩,
    ⟨some 41, some (35, true), none, .objs [], .fa 0 (.v 1)⟩,
    ⟨some 42, some (35, true), none, .objs [(.v 41)], .ld false 1 (.v 41)⟩,
    ⟨some 43, some (35, true), none, .objs [], .mv (.v 6)⟩,
    ⟨some 44, some (35, true), none, .objs [], .iaS 6 (.v 42) (.v 43)⟩,
    ⟨some 45, some (35, true), none, .objs [(.v 44)], .ld true 6 (.v 44)⟩,
    ⟨some 46, some (35, true), none, .cal (.c (.fn (.func 37) [] [])) [(.v 40), (.v 45)], .call (.c (.fn (.func 37) [] [])) [(.v 40), (.v 45)]⟩,
    ⟨some 47, none, none, .objs [], .pk (.v 35) (.v 46) (.c (.sc (.bool false)))⟩]))) <|
    .cond (.v 47) (.ops ([
      ⟨some 48, none, none, .objs [], .mv (.v 7)⟩,
      ⟨some 6, none, none, .objs [], .mv (.v 48)⟩])) (.nop))) <|
  .ops ([
  ⟨some 28, none, none, .objs [], .mv (.v 7)⟩,
  ⟨some 29, none, none, .objs [], .bin .add false (.v 28) (.c (.sc (.int .i64 1)))⟩,
  ⟨some 7, none, none, .objs [], .mv (.v 29)⟩])
noncomputable def il22l0 : C := il22l0b
theorem il22l0_go {P : Program} {pol : Pol} {K : Oracle} {I : Inl} {n : Nat} {f : FuncId} {R : Xit → FEnv → Heap → Prop} {e : FEnv} {h : Heap} : wc P pol K I n f il22l0 R e h = wc P pol K I n f il22l0b R e h := (fun x => x) rfl

noncomputable def il22l1b : C :=
  .seq (.seq (.ops ([
  ⟨some 71, none, none, .objs [], .mv (.v 10)⟩,
  ⟨some 72, none, none, .objs [], .fa 1 (.v 1)⟩,
  ⟨some 73, none, none, .objs [], .ld false 1 (.v 72)⟩,
  ⟨some 74, none, none, .objs [], .lenS (.v 73)⟩,
  ⟨some 75, none, none, .objs [], .bin .lss false (.v 71) (.v 74)⟩])) <|
  .cond (.v 75) (.nop) (.exit 4)) <|
  .seq (.block 5 (.seq (.ops ([
    ⟨some 79, none, none, .objs [], .fa 1 (.v 1)⟩,
    ⟨some 80, none, none, .objs [], .ld false 1 (.v 79)⟩,
    ⟨some 81, none, none, .objs [], .mv (.v 10)⟩,
    ⟨some 82, none, none, .objs [], .iaS 2 (.v 80) (.v 81)⟩,
    ⟨some 83, none, none, .objs [], .ld true 2 (.v 82)⟩,
    ⟨some 84, none, none, .objs [], .mv (.v 4)⟩,
    ⟨some 85, none, none, .objs [], .call (.c (.fn (.func 41) [] [])) [(.v 83), (.v 84)]⟩,
    ⟨some 78, none, none, .objs [], .mv (.v 85)⟩,
    ⟨some 86, none, none, .objs [], .ex (.v 78) 0⟩] ++ mkL [1, 3, 4, 8, 9, 10, 78, 86] ([
    ⟨some 87, none, none, .objs [], .ex (.v 78) 1⟩,
    ⟨some 11, none, none, .objs [], .mv (.v 86)⟩,
    ⟨some 12, none, none, .objs [], .mv (.v 87)⟩]))) <|
    .seq (.opsD [] ([
    ⟨some 88, none, none, .objs [], .mv (.v 12)⟩,
    ⟨some 89, none, none, .objs [], .mv (.v 88)⟩,
    ⟨some 90, some (89, true), none, .objs [], .mv (.v 8)⟩,
    ⟨some 91, some (89, true), none, .objs [], .mv (.v 11)⟩,
    ⟨some 92, some (89, true), none, .objs [], .iaS 1 (.v 90) (.v 91)⟩,
    ⟨some 93, some (89, true), none, .objs [(.v 92)], .ld false 1 (.v 92)⟩,
    ⟨some 94, some (89, true), none, .objs [], .mv (.v 8)⟩,
    ⟨some 95, some (89, true), none, .objs [], .mv (.v 4)⟩,
    ⟨some 96, some (89, true), none, .objs [], .iaS 1 (.v 94) (.v 95)⟩,
    ⟨some 97, some (89, true), none, .objs [(.v 96)], .ld false 1 (.v 96)⟩,
    ⟨some 98, some (89, true), none, .objs [], .bin .sub false (.v 97) (.c (.sc (.int .i64 1)))⟩] ++ mkL [1, 3, 4, 8, 9, 10, 11, 89, 93, 98] ([
    ⟨some 99, some (89, true), none, .objs [], .bin .eql false (.v 93) (.v 98)⟩,
    ⟨some 100, none, none, .objs [], .pk (.v 89) (.v 99) (.c (.sc (.bool false)))⟩,
    ⟨some 101, none, none, .objs [], .mv (.v 100)⟩,
    ⟨some 102, some (101, true), none, .objs [], .mv (.v 11)⟩,
    ⟨some 103, some (101, true), none, .objs [], .fa 7 (.v 9)⟩,
    ⟨some 104, some (101, true), none, .objs [(.v 103)], .ld false 1 (.v 103)⟩,
    ⟨some 105, some (101, true), none, .objs [], .bin .lss false (.v 102) (.v 104)⟩,
    ⟨some 106, none, none, .objs [], .pk (.v 101) (.v 105) (.c (.sc (.bool false)))⟩]))) <|
    .cond (.v 106) (.seq (.ops ([
      ⟨some 107, none, none, .objs [], .mv (.v 11)⟩,
      ⟨some 108, none, none, .objs [], .fa 7 (.v 9)⟩,
      ⟨none, none, none, .objs [], .st 1 (.v 108) (.v 107)⟩])) <|
      .ops ([
      ⟨some 109, none, none, .objs [], .mv (.v 10)⟩,
      ⟨some 110, none, none, .objs [], .fa 8 (.v 9)⟩,
      ⟨none, none, none, .objs [], .st 1 (.v 110) (.v 109)⟩])) (.nop))) <| mkC [1, 3, 4, 8, 9, 10] <|
  .ops ([
  ⟨some 76, none, none, .objs [], .mv (.v 10)⟩,
  ⟨some 77, none, none, .objs [], .bin .add false (.v 76) (.c (.sc (.int .i64 1)))⟩,
  ⟨some 10, none, none, .objs [], .mv (.v 77)⟩])
noncomputable def il22l1 : C := il22l1b
theorem il22l1_go {P : Program} {pol : Pol} {K : Oracle} {I : Inl} {n : Nat} {f : FuncId} {R : Xit → FEnv → Heap → Prop} {e : FEnv} {h : Heap} : wc P pol K I n f il22l1 R e h = wc P pol K I n f il22l1b R e h := (fun x => x) rfl

noncomputable def il22l2b : C :=
  .seq (.seq (.ops ([
  ⟨some 13, none, none, .objs [], .mv (.v 4)⟩,
  ⟨some 14, none, none, .objs [], .fa 0 (.v 1)⟩,
  ⟨some 15, none, none, .objs [], .ld false 1 (.v 14)⟩,
  ⟨some 16, none, none, .objs [], .lenS (.v 15)⟩,
  ⟨some 17, none, none, .objs [], .bin .lss false (.v 13) (.v 16)⟩])) <|
  .cond (.v 17) (.nop) (.exit 0)) <|
  .seq (.block 1 (.seq (.ops ([
    ⟨some 20, none, none, .objs [], .ld true 2 (.v 1)⟩,
    ⟨some 21, none, none, .objs [], .mv (.v 4)⟩,
    ⟨some 22, none, none, .objs [], .call (.c (.fn (.func 40) [] [])) [(.v 20), (.v 21)]⟩,
    ⟨some 5, none, none, .objs [], .mv (.v 22)⟩])) <|
    .seq (.ops ([
    ⟨some 23, none, none, .objs [], .mv (.v 4)⟩,
    ⟨some 6, none, none, .objs [], .mv (.v 23)⟩])) <|
    .seq (.seq (.ops ([
    ⟨some 7, none, none, .objs [], .mv (.c (.sc (.int .i64 0)))⟩])) <|
    .block 2 (.loop (some [1, 3, 4, 5, 6, 7]) il22l0)) <|
    .seq (.seq (.ops ([
    ⟨some 49, none, none, .objs [], .mv (.v 6)⟩,
    ⟨some 50, none, none, .objs [], .mv (.v 4)⟩,
    ⟨some 51, none, none, .objs [], .bin .eql false (.v 49) (.v 50)⟩])) <|
    .cond (.v 51) (.seq (.ops ([
      ⟨some 52, none, none, .objs [], .mv (.v 3)⟩,
      ⟨some 53, none, none, .objs [], .ld true 2 (.v 1)⟩,
      ⟨some 54, none, none, .objs [], .mv (.v 4)⟩,
      ⟨some 55, none, none, .objs [], .call (.c (.fn (.func 17) [] [])) [(.v 53), (.v 54)]⟩,
      ⟨some 56, none, none, .objs [], .bs false 9 (.agg [(.sc (.int .i64 0)), (.sc (.int .i64 0)), (.sc (.int .i64 0)), (.sc (.int .i64 0)), (.sc (.int .i64 0)), (.sc (.int .i64 0)), (.sc (.int .i64 0)), (.sc (.int .i64 0)), (.sc (.int .i64 0))]) 1 [(0, (.v 55))]⟩,
      ⟨some 57, none, none, .objs [], .app 9 72 (.v 52) (.v 56)⟩,
      ⟨some 3, none, none, .objs [], .gmv 9 (.v 57)⟩])) <|
      .exit 1) (.nop)) <|
    .seq (.ops ([
    ⟨some 58, none, none, .objs [], .ld true 2 (.v 1)⟩,
    ⟨some 59, none, none, .objs [], .mv (.v 6)⟩,
    ⟨some 60, none, none, .objs [], .call (.c (.fn (.func 40) [] [])) [(.v 58), (.v 59)]⟩,
    ⟨some 8, none, none, .objs [], .mv (.v 60)⟩])) <| mkC [1, 3, 4, 6, 8] <|
    .seq (.opsD [(1, 10), (4, 10), (8, 10)] ([
    ⟨some 61, none, none, .objs [], .fa 0 (.v 1)⟩,
    ⟨some 62, none, none, .objs [(.v 61)], .ld false 1 (.v 61)⟩,
    ⟨some 63, none, none, .objs [], .mv (.v 6)⟩,
    ⟨some 64, none, none, .objs [], .iaS 6 (.v 62) (.v 63)⟩,
    ⟨some 65, none, none, .objs [(.v 64)], .ld true 6 (.v 64)⟩,
    ⟨some 66, none, none, .objs [], .mv (.v 8)⟩,
    ⟨some 67, none, none, .objs [], .mv (.v 4)⟩,
    ⟨some 68, none, none, .objs [], .iaS 1 (.v 66) (.v 67)⟩,
    ⟨some 69, none, none, .objs [(.v 68)], .ld false 1 (.v 68)⟩,
    ⟨some 70, none, none, .objs [], .bd [(.sc (.int .i64 0)), (.sc (.int .i64 0)), (.sc (.int .i64 0)), (.sc (.int .i64 0)), (.sc (.int .i64 0)), (.sc (.int .i64 0)), (.sc (.int .i64 0)), (.sc (.int .i64 0)), (.sc (.int .i64 0))] [(0, 6, (.v 65)), (6, 1, (.v 69)), (7, 1, (.c (.sc (.int .i64 99)))), (8, 1, (.c (.sc (.int .i64 (-1)))))]⟩,
    ⟨some 9, none, none, .objs [], .nw 9 (.agg [(.sc (.int .i64 0)), (.sc (.int .i64 0)), (.sc (.int .i64 0)), (.sc (.int .i64 0)), (.sc (.int .i64 0)), (.sc (.int .i64 0)), (.sc (.int .i64 0)), (.sc (.int .i64 0)), (.sc (.int .i64 0))])⟩,
    ⟨none, none, none, .objs [(.v 9)], .st 9 (.v 9) (.v 70)⟩])) <|
    .seq (.seq (.ops ([
    ⟨some 10, none, none, .objs [], .mv (.c (.sc (.int .i64 0)))⟩])) <|
    .block 4 (.loop (some [1, 3, 4, 8, 9, 10]) il22l1)) <|
    .ops ([
    ⟨some 111, none, none, .objs [], .mv (.v 3)⟩,
    ⟨some 112, none, none, .objs [], .ld true 9 (.v 9)⟩,
    ⟨some 113, none, none, .objs [], .bs false 9 (.agg [(.sc (.int .i64 0)), (.sc (.int .i64 0)), (.sc (.int .i64 0)), (.sc (.int .i64 0)), (.sc (.int .i64 0)), (.sc (.int .i64 0)), (.sc (.int .i64 0)), (.sc (.int .i64 0)), (.sc (.int .i64 0))]) 1 [(0, (.v 112))]⟩,
    ⟨some 114, none, none, .objs [], .app 9 72 (.v 111) (.v 113)⟩,
    ⟨some 3, none, none, .objs [], .gmv 9 (.v 114)⟩]))) <|
  .ops ([
  ⟨some 18, none, none, .objs [], .mv (.v 4)⟩,
  ⟨some 19, none, none, .objs [], .bin .add false (.v 18) (.c (.sc (.int .i64 1)))⟩,
  ⟨some 4, none, none, .objs [], .mv (.v 19)⟩])
noncomputable def il22l2 : C := il22l2b
theorem il22l2_go {P : Program} {pol : Pol} {K : Oracle} {I : Inl} {n : Nat} {f : FuncId} {R : Xit → FEnv → Heap → Prop} {e : FEnv} {h : Heap} : wc P pol K I n f il22l2 R e h = wc P pol K I n f il22l2b R e h := (fun x => x) rfl

/-- isochron/isochronref11.Elect -/
noncomputable def il22c : C :=
  .seq (.ops ([
  ⟨some 1, none, none, .objs [], .bx false (.v 0)⟩,
  ⟨some 2, none, none, .objs [], .mv (.c (.sc (.slice none 0 0)))⟩])) <|
  .seq (.ops ([
  ⟨some 3, none, none, .objs [], .gmv 9 (.c (.sc (.slice none 0 0)))⟩])) <|
  .seq (.seq (.ops ([
  ⟨some 4, none, none, .objs [], .mv (.c (.sc (.int .i64 0)))⟩])) <|
  .block 0 (.loop (some [1, 3, 4]) il22l2)) <|
  .seq (.ops ([
  ⟨some 115, none, none, .objs [], .mv (.v 3)⟩,
  ⟨some 2, none, none, .objs [], .mv (.v 115)⟩])) <|
  .ret

theorem il22_eq : cFn Try.prog pol 22 = some ⟨116, il22c, [(2, none)]⟩ := by kernel_rfl

noncomputable def il23l0b : C :=
  .seq (.seq (.ops ([
  ⟨some 8, none, none, .objs [], .mv (.v 6)⟩,
  ⟨some 9, none, none, .objs [], .fa 0 (.v 2)⟩,
  ⟨some 10, none, none, .objs [], .ld false 1 (.v 9)⟩,
  ⟨some 11, none, none, .objs [], .lenS (.v 10)⟩,
  ⟨some 12, none, none, .objs [], .bin .lss false (.v 8) (.v 11)⟩])) <|
  .cond (.v 12) (.nop) (.exit 0)) <|
  .seq (.block 1 (.seq (.ops ([
    ⟨some 15, none, none, .objs [], .bd [(.sc (.int .u8 0)), (.sc (.int .u16 0)), (.sc (.int .u8 0)), (.sc (.int .u8 0)), (.sc (.int .u8 0))] []⟩,
    ⟨some 7, none, none, .objs [], .nw 5 (.agg [(.sc (.int .u8 0)), (.sc (.int .u16 0)), (.sc (.int .u8 0)), (.sc (.int .u8 0)), (.sc (.int .u8 0))])⟩,
    ⟨none, none, none, .objs [], .st 5 (.v 7) (.v 15)⟩])) <|
    .seq (.seq (.ops ([
    ⟨some 16, none, none, .objs [], .mv (.v 6)⟩,
    ⟨some 17, none, none, .objs [], .mv (.v 1)⟩,
    ⟨some 18, none, none, .objs [], .lenS (.v 17)⟩,
    ⟨some 19, none, none, .objs [], .bin .lss false (.v 16) (.v 18)⟩])) <|
    .cond (.v 19) (.ops ([
      ⟨some 20, none, none, .objs [], .mv (.v 1)⟩,
      ⟨some 21, none, none, .objs [], .mv (.v 6)⟩] ++ mkL [1, 2, 5, 6, 7, 20, 21] ([
      ⟨some 22, none, none, .objs [], .iaS 5 (.v 20) (.v 21)⟩,
      ⟨some 23, none, none, .objs [], .ld true 5 (.v 22)⟩,
      ⟨none, none, none, .objs [], .st 5 (.v 7) (.v 23)⟩]))) (.nop)) <|
    .ops ([
    ⟨some 24, none, none, .objs [], .mv (.v 5)⟩,
    ⟨some 25, none, none, .objs [], .ld true 5 (.v 7)⟩] ++ mkL [1, 2, 6, 24, 25] ([
    ⟨some 26, none, none, .objs [], .call (.c (.fn (.func 42) [] [])) [(.v 25)]⟩,
    ⟨some 27, none, none, .objs [], .bs false 9 (.agg [(.sc (.int .i64 0)), (.sc (.int .i64 0)), (.sc (.int .i64 0)), (.sc (.int .i64 0)), (.sc (.int .i64 0)), (.sc (.int .i64 0)), (.sc (.int .i64 0)), (.sc (.int .i64 0)), (.sc (.int .i64 0))]) 1 [(0, (.v 26))]⟩,
    ⟨some 28, none, none, .objs [], .app 9 72 (.v 24) (.v 27)⟩,
    ⟨some 5, none, none, .objs [], .gmv 9 (.v 28)⟩])))) <|
  .ops ([
  ⟨some 13, none, none, .objs [], .mv (.v 6)⟩,
  ⟨some 14, none, none, .objs [], .bin .add false (.v 13) (.c (.sc (.int .i64 1)))⟩,
  ⟨some 6, none, none, .objs [], .mv (.v 14)⟩])
noncomputable def il23l0 : C := il23l0b
theorem il23l0_go {P : Program} {pol : Pol} {K : Oracle} {I : Inl} {n : Nat} {f : FuncId} {R : Xit → FEnv → Heap → Prop} {e : FEnv} {h : Heap} : wc P pol K I n f il23l0 R e h = wc P pol K I n f il23l0b R e h := (fun x => x) rfl

/-- isochron/isochronref11.Some -/
noncomputable def il23c : C :=
  .seq (.ops ([
  ⟨some 2, none, none, .objs [], .bx false (.v 0)⟩,
  ⟨some 4, none, none, .objs [], .mv (.c (.sc (.slice none 0 0)))⟩])) <|
  .seq (.ops ([
  ⟨some 5, none, none, .objs [], .gmv 9 (.c (.sc (.slice none 0 0)))⟩])) <|
  .seq (.seq (.ops ([
  ⟨some 6, none, none, .objs [], .mv (.c (.sc (.int .i64 0)))⟩])) <|
  .block 0 (.loop (some [1, 2, 5, 6]) il23l0)) <|
  .seq (.ops ([
  ⟨some 29, none, none, .objs [], .mv (.v 5)⟩,
  ⟨some 4, none, none, .objs [], .mv (.v 29)⟩])) <|
  .ret

theorem il23_eq : cFn Try.prog pol 23 = some ⟨30, il23c, [(4, none)]⟩ := by kernel_rfl

/-- isochron/elect.Roles -/
noncomputable def il24c : C :=
  .seq (.ops ([
  ⟨some 3, none, none, .objs [], .bx false (.v 0)⟩,
  ⟨some 4, none, none, .objs [], .bx false (.v 1)⟩,
  ⟨some 5, none, none, .objs [], .bx false (.v 2)⟩,
  ⟨some 6, none, none, .objs [], .mv (.c (.sc (.slice none 0 0)))⟩,
  ⟨some 7, none, none, .objs [], .mv (.c (.sc (.int .i64 0)))⟩])) <|
  .seq (.seq (.ops ([
  ⟨some 13, none, none, .objs [], .ld true 2 (.v 3)⟩,
  ⟨some 14, none, none, .objs [], .ld false 1 (.v 4)⟩,
  ⟨some 15, none, none, .objs [], .call (.c (.fn (.func 43) [] [])) [(.v 13), (.v 14)]⟩,
  ⟨some 8, none, none, .objs [], .mv (.v 15)⟩])) <|
  .seq (.ops ([
  ⟨some 16, none, none, .objs [], .mv (.v 8)⟩,
  ⟨some 17, none, none, .objs [], .bin .neq false (.v 16) (.c (.sc (.int .i64 0)))⟩])) <|
  .cond (.v 17) (.seq (.ops ([
    ⟨some 18, none, none, .objs [], .mv (.v 8)⟩,
    ⟨some 6, none, none, .objs [], .mv (.c (.sc (.slice none 0 0)))⟩,
    ⟨some 7, none, none, .objs [], .mv (.v 18)⟩])) <|
    .ret) (.nop)) <| mkC [3, 4, 5, 6, 7] <|
  .seq (.seq (.ops ([
  ⟨some 19, none, none, .objs [], .ld false 1 (.v 5)⟩,
  ⟨some 20, none, none, .objs [], .fa 0 (.v 3)⟩,
  ⟨some 21, none, none, .objs [], .ld false 1 (.v 20)⟩,
  ⟨some 22, none, none, .objs [], .lenS (.v 21)⟩,
  ⟨some 23, none, none, .objs [], .bin .sub false (.v 22) (.c (.sc (.int .i64 1)))⟩,
  ⟨some 24, none, none, .objs [], .call (.c (.fn (.func 33) [] [])) [(.v 19), (.c (.sc (.int .i64 0))), (.v 23)]⟩,
  ⟨some 25, none, none, .objs [], .nt (.v 24)⟩])) <|
  .cond (.v 25) (.seq (.ops ([
    ⟨some 6, none, none, .objs [], .mv (.c (.sc (.slice none 0 0)))⟩,
    ⟨some 7, none, none, .objs [], .mv (.c (.sc (.int .i64 2)))⟩])) <|
    .ret) (.nop)) <|
  .seq (.ops ([
  ⟨some 26, none, none, .objs [], .fn 44 [] [(.v 4)]⟩,
  ⟨some 9, none, none, .objs [], .nw 1 (.sc .nilFunc)⟩,
  ⟨none, none, none, .objs [], .st 1 (.v 9) (.v 26)⟩])) <|
  .seq (.ops ([
  ⟨some 10, none, none, .objs [], .nwG 1⟩])) <|
  .seq (.seq (.ops ([
  ⟨some 27, none, none, .objs [], .ld true 2 (.v 3)⟩] ++ mkL [4, 5, 6, 7, 9, 10, 27] ([
  ⟨some 28, none, none, .objs [], .ld false 1 (.v 5)⟩,
  ⟨some 29, none, none, .objs [], .call (.c (.fn (.func 45) [] [])) [(.v 27), (.v 28)]⟩]))) <|
  .block 0 (.rangeF 59 (some [4, 5, 9, 10]) (.v 29) [30, 31] (rfOf Try.prog 24 0).1 (rfOf Try.prog 24 0).2)) <|
  .seq (.ops ([
  ⟨some 58, none, none, .objs [], .ld false 1 (.v 10)⟩,
  ⟨some 6, none, none, .objs [], .mv (.v 58)⟩,
  ⟨some 7, none, none, .objs [], .mv (.c (.sc (.int .i64 0)))⟩])) <|
  .ret

theorem il24_eq : cFn Try.prog pol 24 = some ⟨59, il24c, [(6, none), (7, none)]⟩ := by kernel_rfl

noncomputable def il25l0b : C :=
  .seq (.ops ([
  ⟨some 14, none, none, .objs [], .bin .lss false (.v 13) (.v 12)⟩])) <|
  .seq (.cond (.v 14) (.nop) (.exit 0)) <|
  .seq (.block 1 (.seq (.ops ([
    ⟨some 15, none, none, .objs [], .mv (.v 13)⟩,
    ⟨some 5, none, none, .objs [], .mv (.v 15)⟩])) <|
    .seq (.opsD [] ([
    ⟨some 16, none, none, .objs [], .mv (.v 0)⟩,
    ⟨some 17, none, none, .objs [], .mv (.v 5)⟩,
    ⟨some 18, none, none, .objs [], .iaS 1 (.v 16) (.v 17)⟩,
    ⟨some 19, none, none, .objs [(.v 18)], .ld false 1 (.v 18)⟩,
    ⟨some 20, none, none, .objs [], .mv (.v 1)⟩,
    ⟨some 21, none, none, .objs [], .mv (.v 5)⟩,
    ⟨some 22, none, none, .objs [], .iaS 1 (.v 20) (.v 21)⟩,
    ⟨some 23, none, none, .objs [(.v 22)], .ld false 1 (.v 22)⟩,
    ⟨some 24, none, none, .objs [], .bin .neq false (.v 19) (.v 23)⟩])) <|
    .cond (.v 24) (.seq (.ops ([
      ⟨some 4, none, none, .objs [], .mv (.c (.sc (.bool false)))⟩])) <|
      .ret) (.nop))) <|
  .ops ([
  ⟨some 25, none, none, .objs [], .bin .add false (.v 13) (.c (.sc (.int .i64 1)))⟩] ++ mkL [0, 1, 12, 25] ([
  ⟨some 13, none, none, .objs [], .mv (.v 25)⟩]))
noncomputable def il25l0 : C := il25l0b
theorem il25l0_go {P : Program} {pol : Pol} {K : Oracle} {I : Inl} {n : Nat} {f : FuncId} {R : Xit → FEnv → Heap → Prop} {e : FEnv} {h : Heap} : wc P pol K I n f il25l0 R e h = wc P pol K I n f il25l0b R e h := (fun x => x) rfl

/-- slices.Equal[[]int,int] -/
noncomputable def il25c : C :=
  .seq (.ops ([
  ⟨some 4, none, none, .objs [], .mv (.c (.sc (.bool false)))⟩])) <|
  .seq (.seq (.ops ([
  ⟨some 6, none, none, .objs [], .mv (.v 0)⟩,
  ⟨some 7, none, none, .objs [], .lenS (.v 6)⟩,
  ⟨some 8, none, none, .objs [], .mv (.v 1)⟩,
  ⟨some 9, none, none, .objs [], .lenS (.v 8)⟩,
  ⟨some 10, none, none, .objs [], .bin .neq false (.v 7) (.v 9)⟩])) <|
  .cond (.v 10) (.seq (.ops ([
    ⟨some 4, none, none, .objs [], .mv (.c (.sc (.bool false)))⟩])) <|
    .ret) (.nop)) <|
  .seq (.seq (.ops ([
  ⟨some 11, none, none, .objs [], .mv (.v 0)⟩,
  ⟨some 12, none, none, .objs [], .lenS (.v 11)⟩,
  ⟨some 13, none, none, .objs [], .mv (.c (.sc (.int .i64 0)))⟩])) <|
  .block 0 (.loop (some [0, 1, 12, 13]) il25l0)) <|
  .seq (.ops ([
  ⟨some 4, none, none, .objs [], .mv (.c (.sc (.bool true)))⟩])) <|
  .ret

theorem il25_eq : cFn Try.prog pol 25 = some ⟨26, il25c, [(4, none)]⟩ := by kernel_rfl

noncomputable def il26l0b : C :=
  .seq (.seq (.ops ([
  ⟨some 13, none, none, .objs [], .mv (.v 8)⟩,
  ⟨some 14, none, none, .objs [], .fa 1 (.v 3)⟩,
  ⟨some 15, none, none, .objs [], .ld false 1 (.v 14)⟩,
  ⟨some 16, none, none, .objs [], .lenS (.v 15)⟩,
  ⟨some 17, none, none, .objs [], .bin .lss false (.v 13) (.v 16)⟩])) <|
  .cond (.v 17) (.nop) (.exit 0)) <|
  .seq (.block 1 (.seq (.ops ([
    ⟨some 21, none, none, .objs [], .fa 1 (.v 3)⟩,
    ⟨some 22, none, none, .objs [], .ld false 1 (.v 21)⟩,
    ⟨some 23, none, none, .objs [], .mv (.v 8)⟩,
    ⟨some 24, none, none, .objs [], .iaS 2 (.v 22) (.v 23)⟩,
    ⟨some 25, none, none, .objs [], .ld true 2 (.v 24)⟩,
    ⟨some 26, none, none, .objs [], .mv (.v 2)⟩,
    ⟨some 27, none, none, .objs [], .call (.c (.fn (.func 41) [] [])) [(.v 25), (.v 26)]⟩,
    ⟨some 20, none, none, .objs [], .mv (.v 27)⟩,
    ⟨some 28, none, none, .objs [], .ex (.v 20) 0⟩] ++ mkL [1, 2, 3, 7, 8, 20, 28] ([
    ⟨some 29, none, none, .objs [], .ex (.v 20) 1⟩,
    ⟨some 9, none, none, .objs [], .mv (.v 28)⟩,
    ⟨some 10, none, none, .objs [], .mv (.v 29)⟩]))) <|
    .seq (.seq (.ops ([
    ⟨some 30, none, none, .objs [], .mv (.v 10)⟩,
    ⟨some 31, none, none, .objs [], .nt (.v 30)⟩])) <|
    .cond (.v 31) (.exit 1) (.nop)) <|
    .seq (.opsD [(4, 12), (9, 12)] ([
    ⟨some 32, none, none, .objs [], .mv (.v 1)⟩,
    ⟨some 33, none, none, .objs [], .mv (.v 2)⟩,
    ⟨some 34, none, none, .objs [], .iaS 9 (.v 32) (.v 33)⟩,
    ⟨some 35, none, none, .objs [], .fa 0 (.v 34)⟩,
    ⟨some 36, none, none, .objs [(.v 35)], .ld true 6 (.v 35)⟩,
    ⟨some 37, none, none, .objs [], .mv (.v 1)⟩,
    ⟨some 38, none, none, .objs [], .mv (.v 2)⟩,
    ⟨some 39, none, none, .objs [], .iaS 9 (.v 37) (.v 38)⟩,
    ⟨some 40, none, none, .objs [], .fa 6 (.v 39)⟩] ++ mkL [1, 2, 3, 7, 8, 9, 36, 40] ([
    ⟨some 41, none, none, .objs [(.v 40)], .ld false 1 (.v 40)⟩,
    ⟨some 42, none, none, .objs [], .mv (.v 2)⟩,
    ⟨some 43, none, none, .objs [], .bd [(.sc (.int .i64 0)), (.sc (.int .i64 0)), (.sc (.int .i64 0)), (.sc (.int .i64 0)), (.sc (.int .i64 0)), (.sc (.int .i64 0)), (.sc (.int .i64 0)), (.sc (.int .i64 0)), (.sc (.int .i64 0))] [(0, 6, (.v 36)), (6, 1, (.v 41)), (7, 1, (.v 42))]⟩,
    ⟨some 11, none, none, .objs [], .nw 9 (.agg [(.sc (.int .i64 0)), (.sc (.int .i64 0)), (.sc (.int .i64 0)), (.sc (.int .i64 0)), (.sc (.int .i64 0)), (.sc (.int .i64 0)), (.sc (.int .i64 0)), (.sc (.int .i64 0)), (.sc (.int .i64 0))])⟩,
    ⟨none, none, none, .objs [(.v 11)], .st 9 (.v 11) (.v 43)⟩]))) <|
    .seq (.opsD [(4, 12), (9, 12)] ([
    ⟨some 44, none, none, .objs [], .mv (.v 1)⟩,
    ⟨some 45, none, none, .objs [], .mv (.v 9)⟩,
    ⟨some 46, none, none, .objs [], .iaS 9 (.v 44) (.v 45)⟩,
    ⟨some 47, none, none, .objs [], .fa 0 (.v 46)⟩,
    ⟨some 48, none, none, .objs [(.v 47)], .ld true 6 (.v 47)⟩,
    ⟨some 49, none, none, .objs [], .mv (.v 1)⟩,
    ⟨some 50, none, none, .objs [], .mv (.v 9)⟩,
    ⟨some 51, none, none, .objs [], .iaS 9 (.v 49) (.v 50)⟩,
    ⟨some 52, none, none, .objs [], .fa 6 (.v 51)⟩] ++ mkL [1, 2, 3, 7, 8, 9, 11, 48, 52] ([
    ⟨some 53, none, none, .objs [(.v 52)], .ld false 1 (.v 52)⟩,
    ⟨some 54, none, none, .objs [], .mv (.v 9)⟩,
    ⟨some 55, none, none, .objs [], .bd [(.sc (.int .i64 0)), (.sc (.int .i64 0)), (.sc (.int .i64 0)), (.sc (.int .i64 0)), (.sc (.int .i64 0)), (.sc (.int .i64 0)), (.sc (.int .i64 0)), (.sc (.int .i64 0)), (.sc (.int .i64 0))] [(0, 6, (.v 48)), (6, 1, (.v 53)), (7, 1, (.v 54))]⟩,
    ⟨some 12, none, none, .objs [], .nw 9 (.agg [(.sc (.int .i64 0)), (.sc (.int .i64 0)), (.sc (.int .i64 0)), (.sc (.int .i64 0)), (.sc (.int .i64 0)), (.sc (.int .i64 0)), (.sc (.int .i64 0)), (.sc (.int .i64 0)), (.sc (.int .i64 0))])⟩,
    ⟨none, none, none, .objs [(.v 12)], .st 9 (.v 12) (.v 55)⟩]))) <|
    .block 2 (.seq (.ops ([
      ⟨some 60, none, none, .objs [], .mv (.v 1)⟩,
      ⟨some 61, none, none, .objs [], .mv (.v 2)⟩,
      ⟨some 62, none, none, .objs [], .iaS 9 (.v 60) (.v 61)⟩,
      ⟨some 63, none, none, .objs [], .fa 8 (.v 62)⟩,
      ⟨some 64, none, none, .objs [], .ld false 1 (.v 63)⟩,
      ⟨some 65, none, none, .objs [], .mv (.v 8)⟩,
      ⟨some 66, none, none, .objs [], .bin .eql false (.v 64) (.v 65)⟩,
      ⟨some 59, none, none, .objs [], .mv (.v 66)⟩])) <|
      .cond (.v 59) (.ops ([
        ⟨some 67, none, none, .objs [], .mv (.v 7)⟩] ++ mkL [1, 2, 3, 8, 67] ([
        ⟨some 68, none, none, .objs [], .bs false 1 (.sc (.int .i64 0)) 1 [(0, (.c (.sc (.int .i64 1))))]⟩,
        ⟨some 69, none, none, .objs [], .app 1 8 (.v 67) (.v 68)⟩,
        ⟨some 7, none, none, .objs [], .gmv 1 (.v 69)⟩]))) (.seq (.ops ([
        ⟨some 71, none, none, .objs [], .ld true 9 (.v 11)⟩] ++ mkL [1, 2, 3, 7, 8, 12, 71] ([
        ⟨some 72, none, none, .objs [], .ld true 9 (.v 12)⟩,
        ⟨some 73, none, none, .objs [], .call (.c (.fn (.func 19) [] [])) [(.v 71), (.v 72)]⟩,
        ⟨some 74, none, none, .objs [], .bin .lss false (.v 73) (.c (.sc (.int .i64 0)))⟩,
        ⟨some 70, none, none, .objs [], .mv (.v 74)⟩]))) <|
        .cond (.v 70) (.ops ([
          ⟨some 75, none, none, .objs [], .mv (.v 7)⟩,
          ⟨some 76, none, none, .objs [], .bs false 1 (.sc (.int .i64 0)) 1 [(0, (.c (.sc (.int .i64 2))))]⟩,
          ⟨some 77, none, none, .objs [], .app 1 8 (.v 75) (.v 76)⟩,
          ⟨some 7, none, none, .objs [], .gmv 1 (.v 77)⟩])) (.ops ([
          ⟨some 56, none, none, .objs [], .mv (.v 7)⟩,
          ⟨some 57, none, none, .objs [], .bs false 1 (.sc (.int .i64 0)) 1 [(0, (.c (.sc (.int .i64 3))))]⟩,
          ⟨some 58, none, none, .objs [], .app 1 8 (.v 56) (.v 57)⟩,
          ⟨some 7, none, none, .objs [], .gmv 1 (.v 58)⟩])))))) <|
  .ops ([
  ⟨some 18, none, none, .objs [], .mv (.v 8)⟩,
  ⟨some 19, none, none, .objs [], .bin .add false (.v 18) (.c (.sc (.int .i64 1)))⟩,
  ⟨some 8, none, none, .objs [], .mv (.v 19)⟩])
noncomputable def il26l0 : C := il26l0b
theorem il26l0_go {P : Program} {pol : Pol} {K : Oracle} {I : Inl} {n : Nat} {f : FuncId} {R : Xit → FEnv → Heap → Prop} {e : FEnv} {h : Heap} : wc P pol K I n f il26l0 R e h = wc P pol K I n f il26l0b R e h := (fun x => x) rfl

/-- isochron/isochronref11.Roles -/
noncomputable def il26c : C :=
  .seq (.ops ([
  ⟨some 3, none, none, .objs [], .bx false (.v 0)⟩,
  ⟨some 6, none, none, .objs [], .mv (.c (.sc (.slice none 0 0)))⟩])) <|
  .seq (.ops ([
  ⟨some 7, none, none, .objs [], .gmv 1 (.c (.sc (.slice none 0 0)))⟩])) <|
  .seq (.seq (.ops ([
  ⟨some 8, none, none, .objs [], .mv (.c (.sc (.int .i64 0)))⟩])) <|
  .block 0 (.loop (some [1, 2, 3, 7, 8]) il26l0)) <|
  .seq (.ops ([
  ⟨some 78, none, none, .objs [], .mv (.v 7)⟩,
  ⟨some 6, none, none, .objs [], .mv (.v 78)⟩])) <|
  .ret

theorem il26_eq : cFn Try.prog pol 26 = some ⟨79, il26c, [(6, none)]⟩ := by kernel_rfl

/-- isochron/elect.Round -/
noncomputable def il27c : C :=
  .seq (.ops ([
  ⟨some 2, none, none, .objs [], .bx false (.v 0)⟩,
  ⟨some 4, none, none, .objs [], .mv (.c (.sc (.slice none 0 0)))⟩,
  ⟨some 5, none, none, .objs [], .mv (.c (.sc (.int .i64 0)))⟩])) <|
  .seq (.seq (.ops ([
  ⟨some 7, none, none, .objs [], .ld true 2 (.v 2)⟩,
  ⟨some 8, none, none, .objs [], .mv (.v 1)⟩,
  ⟨some 9, none, none, .objs [], .call (.c (.fn (.func 43) [] [])) [(.v 7), (.v 8)]⟩,
  ⟨some 6, none, none, .objs [], .mv (.v 9)⟩])) <|
  .seq (.ops ([
  ⟨some 10, none, none, .objs [], .mv (.v 6)⟩,
  ⟨some 11, none, none, .objs [], .bin .neq false (.v 10) (.c (.sc (.int .i64 0)))⟩])) <|
  .cond (.v 11) (.seq (.ops ([
    ⟨some 12, none, none, .objs [], .mv (.v 6)⟩,
    ⟨some 4, none, none, .objs [], .mv (.c (.sc (.slice none 0 0)))⟩,
    ⟨some 5, none, none, .objs [], .mv (.v 12)⟩])) <|
    .ret) (.nop)) <|
  .seq (.ops ([
  ⟨some 13, none, none, .objs [], .ld true 2 (.v 2)⟩,
  ⟨some 14, none, none, .objs [], .mv (.v 1)⟩] ++ mkL [13, 14] ([
  ⟨some 15, none, none, .objs [], .call (.c (.fn (.func 39) [] [])) [(.v 13), (.v 14)]⟩,
  ⟨some 4, none, none, .objs [], .mv (.v 15)⟩,
  ⟨some 5, none, none, .objs [], .mv (.c (.sc (.int .i64 0)))⟩]))) <|
  .ret

theorem il27_eq : cFn Try.prog pol 27 = some ⟨16, il27c, [(4, none), (5, none)]⟩ := by kernel_rfl

/-- isochron/isochronlaw11.three -/
noncomputable def il28c : C :=
  .seq (.ops ([
  ⟨some 0, none, none, .objs [], .nw 2 (.agg [(.sc (.slice none 0 0)), (.sc (.slice none 0 0))])⟩])) <|
  .seq (.ops ([
  ⟨some 1, none, none, .objs [], .bd [(.sc (.int .i64 0)), (.sc (.int .i64 0)), (.sc (.int .i64 0)), (.sc (.int .i64 0)), (.sc (.int .i64 0)), (.sc (.int .i64 0))] [(0, 1, (.c (.sc (.int .i64 9)))), (5, 1, (.c (.sc (.int .i64 1))))]⟩,
  ⟨some 2, none, none, .objs [], .bd [(.sc (.int .i64 0)), (.sc (.int .i64 0)), (.sc (.int .i64 0)), (.sc (.int .i64 0)), (.sc (.int .i64 0)), (.sc (.int .i64 0))] [(0, 1, (.c (.sc (.int .i64 5)))), (5, 1, (.c (.sc (.int .i64 2))))]⟩,
  ⟨some 3, none, none, .objs [], .bd [(.sc (.int .i64 0)), (.sc (.int .i64 0)), (.sc (.int .i64 0)), (.sc (.int .i64 0)), (.sc (.int .i64 0)), (.sc (.int .i64 0))] [(0, 1, (.c (.sc (.int .i64 9)))), (5, 1, (.c (.sc (.int .i64 3))))]⟩,
  ⟨some 4, none, none, .objs [], .bs false 6 (.agg [(.sc (.int .i64 0)), (.sc (.int .i64 0)), (.sc (.int .i64 0)), (.sc (.int .i64 0)), (.sc (.int .i64 0)), (.sc (.int .i64 0))]) 3 [(0, (.v 1)), (1, (.v 2)), (2, (.v 3))]⟩,
  ⟨some 5, none, none, .objs [], .bd [(.sc (.int .i64 0)), (.sc (.int .i64 0))] [(0, 1, (.c (.sc (.int .i64 0)))), (1, 1, (.c (.sc (.int .i64 1))))]⟩,
  ⟨some 6, none, none, .objs [], .bd [(.sc (.int .i64 0)), (.sc (.int .i64 0))] [(0, 1, (.c (.sc (.int .i64 1)))), (1, 1, (.c (.sc (.int .i64 2))))]⟩,
  ⟨some 7, none, none, .objs [], .bd [(.sc (.int .i64 0)), (.sc (.int .i64 0))] [(0, 1, (.c (.sc (.int .i64 0)))), (1, 1, (.c (.sc (.int .i64 2))))]⟩,
  ⟨some 8, none, none, .objs [], .bs false 2 (.agg [(.sc (.int .i64 0)), (.sc (.int .i64 0))]) 3 [(0, (.v 5)), (1, (.v 6)), (2, (.v 7))]⟩,
  ⟨some 9, none, none, .objs [], .bd [(.sc (.slice none 0 0)), (.sc (.slice none 0 0))] [(0, 1, (.v 4)), (1, 1, (.v 8))]⟩,
  ⟨none, none, none, .objs [], .st 2 (.v 0) (.v 9)⟩])) <|
  .ret

theorem il28_eq : cFn Try.prog pol 28 = some ⟨10, il28c, [(0, some (true, 2))]⟩ := by kernel_rfl

/-- slices.Clone[[]isochron/api.Vector,isochron/api.Vector] -/
noncomputable def il29c : C :=
  .seq (.ops ([
  ⟨some 2, none, none, .objs [], .mv (.c (.sc (.slice none 0 0)))⟩])) <|
  .seq (.seq (.ops ([
  ⟨some 3, none, none, .objs [], .mv (.v 0)⟩,
  ⟨some 4, none, none, .objs [], .raw (opOf Try.prog 29 1 1)⟩])) <|
  .cond (.v 4) (.seq (.ops ([
    ⟨some 2, none, none, .objs [], .mv (.c (.sc (.slice none 0 0)))⟩])) <|
    .ret) (.nop)) <|
  .seq (.ops ([
  ⟨some 5, none, none, .objs [], .bs false 9 (.agg [(.sc (.int .i64 0)), (.sc (.int .i64 0)), (.sc (.int .i64 0)), (.sc (.int .i64 0)), (.sc (.int .i64 0)), (.sc (.int .i64 0)), (.sc (.int .i64 0)), (.sc (.int .i64 0)), (.sc (.int .i64 0))]) 0 []⟩,
  ⟨some 6, none, none, .objs [], .mv (.v 0)⟩,
  ⟨some 7, none, none, .objs [], .app 9 72 (.v 5) (.v 6)⟩,
  ⟨some 2, none, none, .objs [], .mv (.v 7)⟩])) <|
  .ret

theorem il29_eq : cFn Try.prog pol 29 = some ⟨8, il29c, [(2, none)]⟩ := by kernel_rfl
theorem raw29_1_1 {e : FEnv} {h : Heap} : iStep Try.prog pol 29 e h (.raw (opOf Try.prog 29 1 1)) = vOf h (binE Try.prog false 47 (.tmp 3) (.const (.slice none 0 0)) (Src.get e (.v 3)) (Src.get e (.c (.sc (.slice none 0 0))))) := raw_eql (x := (.tmp 3)) (y := (.const (.slice none 0 0))) (s := 47) (by kernel_rfl)

noncomputable def il30l0b : C :=
  .seq (.seq (.ops ([
  ⟨some 13, none, none, .objs [], .mv (.v 5)⟩,
  ⟨some 14, none, none, .objs [], .mv (.v 1)⟩,
  ⟨some 15, none, none, .objs [], .lenS (.v 14)⟩,
  ⟨some 16, none, none, .objs [], .bin .lss false (.v 13) (.v 15)⟩])) <|
  .cond (.v 16) (.nop) (.exit 0)) <|
  .seq (.block 1 (.seq (.ops ([
    ⟨some 19, none, none, .objs [], .mv (.v 1)⟩,
    ⟨some 20, none, none, .objs [], .mv (.v 5)⟩,
    ⟨some 21, none, none, .objs [], .iaS 9 (.v 19) (.v 20)⟩,
    ⟨some 22, none, none, .objs [], .ld true 9 (.v 21)⟩,
    ⟨some 6, none, none, .objs [], .nw 9 (.agg [(.sc (.int .i64 0)), (.sc (.int .i64 0)), (.sc (.int .i64 0)), (.sc (.int .i64 0)), (.sc (.int .i64 0)), (.sc (.int .i64 0)), (.sc (.int .i64 0)), (.sc (.int .i64 0)), (.sc (.int .i64 0))])⟩,
    ⟨none, none, none, .objs [], .st 9 (.v 6) (.v 22)⟩])) <|
    .seq (.ops ([
    ⟨some 23, none, none, .objs [], .fa 0 (.v 6)⟩,
    ⟨some 24, none, none, .objs [], .ld true 6 (.v 23)⟩,
    ⟨some 25, none, none, .objs [], .call (.c (.fn (.func 32) [] [])) [(.v 24)]⟩,
    ⟨some 26, none, none, .objs [], .nt (.v 25)⟩] ++ mkL [1, 5, 6, 26] ([
    ⟨some 27, none, none, .objs [], .mv (.v 26)⟩,
    ⟨some 28, some (27, false), none, .objs [], .fa 6 (.v 6)⟩,
    ⟨some 29, some (27, false), none, .objs [], .ld false 1 (.v 28)⟩,
    ⟨some 30, some (27, false), none, .objs [], .bin .lss false (.v 29) (.c (.sc (.int .i64 0)))⟩,
    ⟨some 31, none, none, .objs [], .pk (.v 27) (.c (.sc (.bool true))) (.v 30)⟩,
    ⟨some 32, none, none, .objs [], .mv (.v 31)⟩,
    ⟨some 33, some (32, false), none, .objs [], .fa 6 (.v 6)⟩,
    ⟨some 34, some (32, false), none, .objs [], .ld false 1 (.v 33)⟩,
    ⟨some 35, some (32, false), none, .objs [], .bin .gtr false (.v 34) (.c (.sc (.int .i64 11)))⟩,
    ⟨some 36, none, none, .objs [], .pk (.v 32) (.c (.sc (.bool true))) (.v 35)⟩,
    ⟨some 37, none, none, .objs [], .mv (.v 36)⟩,
    ⟨some 38, some (37, false), none, .objs [], .fa 7 (.v 6)⟩,
    ⟨some 39, some (37, false), none, .objs [], .ld false 1 (.v 38)⟩,
    ⟨some 40, some (37, false), none, .objs [], .bin .lss false (.v 39) (.c (.sc (.int .i64 0)))⟩] ++ mkL [1, 5, 6, 37, 40] ([
    ⟨some 41, none, none, .objs [], .pk (.v 37) (.c (.sc (.bool true))) (.v 40)⟩,
    ⟨some 42, none, none, .objs [], .mv (.v 41)⟩,
    ⟨some 43, some (42, false), none, .objs [], .fa 7 (.v 6)⟩,
    ⟨some 44, some (42, false), none, .objs [], .ld false 1 (.v 43)⟩,
    ⟨some 45, some (42, false), none, .objs [], .bin .gtr false (.v 44) (.c (.sc (.int .i64 11)))⟩,
    ⟨some 46, none, none, .objs [], .pk (.v 42) (.c (.sc (.bool true))) (.v 45)⟩,
    ⟨some 47, none, none, .objs [], .mv (.v 46)⟩,
    ⟨some 48, some (47, false), none, .objs [], .fa 8 (.v 6)⟩,
    ⟨some 49, some (47, false), none, .objs [], .ld false 1 (.v 48)⟩,
    ⟨some 50, some (47, false), none, .objs [], .bin .lss false (.v 49) (.c (.sc (.int .i64 (-1))))⟩,
    ⟨some 51, none, none, .objs [], .pk (.v 47) (.c (.sc (.bool true))) (.v 50)⟩,
    ⟨some 52, none, none, .objs [], .mv (.v 51)⟩,
    ⟨some 53, some (52, false), none, .objs [], .fa 8 (.v 6)⟩,
    ⟨some 54, some (52, false), none, .objs [], .ld false 1 (.v 53)⟩] ++ mkL [1, 5, 52, 54] ([
    ⟨some 55, some (52, false), none, .objs [], .bin .gtr false (.v 54) (.c (.sc (.int .i64 23)))⟩,
    ⟨some 56, none, none, .objs [], .pk (.v 52) (.c (.sc (.bool true))) (.v 55)⟩]))))) <|
    .cond (.v 56) (.seq (.ops ([
      ⟨some 4, none, none, .objs [], .mv (.c (.sc (.bool false)))⟩])) <|
      .ret) (.nop))) <|
  .ops ([
  ⟨some 17, none, none, .objs [], .mv (.v 5)⟩,
  ⟨some 18, none, none, .objs [], .bin .add false (.v 17) (.c (.sc (.int .i64 1)))⟩,
  ⟨some 5, none, none, .objs [], .mv (.v 18)⟩])
noncomputable def il30l0 : C := il30l0b
theorem il30l0_go {P : Program} {pol : Pol} {K : Oracle} {I : Inl} {n : Nat} {f : FuncId} {R : Xit → FEnv → Heap → Prop} {e : FEnv} {h : Heap} : wc P pol K I n f il30l0 R e h = wc P pol K I n f il30l0b R e h := (fun x => x) rfl

/-- isochron/isochronref11.Vectors -/
noncomputable def il30c : C :=
  .seq (.ops ([
  ⟨some 2, none, none, .objs [], .bx false (.v 0)⟩,
  ⟨some 4, none, none, .objs [], .mv (.c (.sc (.bool false)))⟩])) <|
  .seq (.seq (.ops ([
  ⟨some 7, none, none, .objs [], .mv (.v 1)⟩,
  ⟨some 8, none, none, .objs [], .lenS (.v 7)⟩,
  ⟨some 9, none, none, .objs [], .fa 0 (.v 2)⟩,
  ⟨some 10, none, none, .objs [], .ld false 1 (.v 9)⟩,
  ⟨some 11, none, none, .objs [], .lenS (.v 10)⟩,
  ⟨some 12, none, none, .objs [], .bin .neq false (.v 8) (.v 11)⟩])) <|
  .cond (.v 12) (.seq (.ops ([
    ⟨some 4, none, none, .objs [], .mv (.c (.sc (.bool false)))⟩])) <|
    .ret) (.nop)) <|
  .seq (.seq (.ops ([
  ⟨some 5, none, none, .objs [], .mv (.c (.sc (.int .i64 0)))⟩])) <|
  .block 0 (.loop (some [1, 5]) il30l0)) <|
  .seq (.ops ([
  ⟨some 4, none, none, .objs [], .mv (.c (.sc (.bool true)))⟩])) <|
  .ret

theorem il30_eq : cFn Try.prog pol 30 = some ⟨57, il30c, [(4, none)]⟩ := by kernel_rfl

noncomputable def il31l0b : C :=
  .seq (.seq (.ops ([
  ⟨some 21, none, none, .objs [], .mv (.v 8)⟩,
  ⟨some 22, none, none, .objs [], .fa 1 (.v 2)⟩,
  ⟨some 23, none, none, .objs [], .ld false 1 (.v 22)⟩,
  ⟨some 24, none, none, .objs [], .lenS (.v 23)⟩,
  ⟨some 25, none, none, .objs [], .bin .lss false (.v 21) (.v 24)⟩])) <|
  .cond (.v 25) (.nop) (.exit 2)) <|
  .seq (.block 3 (.seq (.ops ([
    ⟨some 29, none, none, .objs [], .fa 1 (.v 2)⟩,
    ⟨some 30, none, none, .objs [], .ld false 1 (.v 29)⟩,
    ⟨some 31, none, none, .objs [], .mv (.v 8)⟩,
    ⟨some 32, none, none, .objs [], .iaS 2 (.v 30) (.v 31)⟩,
    ⟨some 33, none, none, .objs [], .ld true 2 (.v 32)⟩,
    ⟨some 34, none, none, .objs [], .mv (.v 6)⟩,
    ⟨some 35, none, none, .objs [], .call (.c (.fn (.func 41) [] [])) [(.v 33), (.v 34)]⟩,
    ⟨some 28, none, none, .objs [], .mv (.v 35)⟩,
    ⟨some 36, none, none, .objs [], .ex (.v 28) 0⟩] ++ mkL [1, 2, 5, 6, 7, 8, 28, 36] ([
    ⟨some 37, none, none, .objs [], .ex (.v 28) 1⟩,
    ⟨some 9, none, none, .objs [], .mv (.v 36)⟩,
    ⟨some 10, none, none, .objs [], .mv (.v 37)⟩]))) <|
    .seq (.seq (.ops ([
    ⟨some 38, none, none, .objs [], .mv (.v 10)⟩,
    ⟨some 39, none, none, .objs [], .nt (.v 38)⟩,
    ⟨some 40, none, none, .objs [], .mv (.v 39)⟩,
    ⟨some 41, some (40, false), none, .objs [], .mv (.v 1)⟩,
    ⟨some 42, some (40, false), none, .objs [], .mv (.v 9)⟩,
    ⟨some 43, some (40, false), none, .objs [], .iaS 9 (.v 41) (.v 42)⟩,
    ⟨some 44, some (40, false), none, .objs [], .fa 6 (.v 43)⟩,
    ⟨some 45, some (40, false), none, .objs [], .ld false 1 (.v 44)⟩,
    ⟨some 46, some (40, false), none, .objs [], .bin .add false (.v 45) (.c (.sc (.int .i64 1)))⟩,
    ⟨some 47, some (40, false), none, .objs [], .bin .geq false (.v 46) (.c (.sc (.int .i64 12)))⟩,
    ⟨some 48, none, none, .objs [], .pk (.v 40) (.c (.sc (.bool true))) (.v 47)⟩])) <| mkC [1, 2, 5, 6, 7, 8, 9, 48] <|
    .cond (.v 48) (.exit 3) (.nop)) <|
    .seq (.opsD [(4, 14), (9, 14)] ([
    ⟨some 49, none, none, .objs [], .mv (.v 1)⟩,
    ⟨some 50, none, none, .objs [], .mv (.v 9)⟩,
    ⟨some 51, none, none, .objs [], .iaS 9 (.v 49) (.v 50)⟩,
    ⟨some 52, none, none, .objs [], .fa 0 (.v 51)⟩,
    ⟨some 53, none, none, .objs [(.v 52)], .ld true 6 (.v 52)⟩,
    ⟨some 54, none, none, .objs [], .mv (.v 1)⟩,
    ⟨some 55, none, none, .objs [], .mv (.v 9)⟩,
    ⟨some 56, none, none, .objs [], .iaS 9 (.v 54) (.v 55)⟩,
    ⟨some 57, none, none, .objs [], .fa 6 (.v 56)⟩,
    ⟨some 58, none, none, .objs [(.v 57)], .ld false 1 (.v 57)⟩,
    ⟨some 59, none, none, .objs [], .bin .add false (.v 58) (.c (.sc (.int .i64 1)))⟩,
    ⟨some 60, none, none, .objs [], .mv (.v 9)⟩,
    ⟨some 61, none, none, .objs [], .mv (.v 8)⟩,
    ⟨some 62, none, none, .objs [], .bd [(.sc (.int .i64 0)), (.sc (.int .i64 0)), (.sc (.int .i64 0)), (.sc (.int .i64 0)), (.sc (.int .i64 0)), (.sc (.int .i64 0)), (.sc (.int .i64 0)), (.sc (.int .i64 0)), (.sc (.int .i64 0))] [(0, 6, (.v 53)), (6, 1, (.v 59)), (7, 1, (.v 60)), (8, 1, (.v 61))]⟩] ++ mkL [1, 2, 5, 6, 7, 8, 62] ([
    ⟨some 11, none, none, .objs [], .nw 9 (.agg [(.sc (.int .i64 0)), (.sc (.int .i64 0)), (.sc (.int .i64 0)), (.sc (.int .i64 0)), (.sc (.int .i64 0)), (.sc (.int .i64 0)), (.sc (.int .i64 0)), (.sc (.int .i64 0)), (.sc (.int .i64 0))])⟩,
    ⟨none, none, none, .objs [(.v 11)], .st 9 (.v 11) (.v 62)⟩]))) <|
    .seq (.ops ([
    ⟨some 63, none, none, .objs [], .ld true 9 (.v 11)⟩,
    ⟨some 64, none, none, .objs [], .ld true 9 (.v 7)⟩,
    ⟨some 65, none, none, .objs [], .call (.c (.fn (.func 19) [] [])) [(.v 63), (.v 64)]⟩,
    ⟨some 66, none, none, .objs [], .bin .lss false (.v 65) (.c (.sc (.int .i64 0)))⟩])) <|
    .cond (.v 66) (.ops ([
      ⟨some 67, none, none, .objs [], .ld true 9 (.v 11)⟩,
      ⟨none, none, none, .objs [], .st 9 (.v 7) (.v 67)⟩])) (.nop))) <|
  .ops ([
  ⟨some 26, none, none, .objs [], .mv (.v 8)⟩,
  ⟨some 27, none, none, .objs [], .bin .add false (.v 26) (.c (.sc (.int .i64 1)))⟩,
  ⟨some 8, none, none, .objs [], .mv (.v 27)⟩])
noncomputable def il31l0 : C := il31l0b
theorem il31l0_go {P : Program} {pol : Pol} {K : Oracle} {I : Inl} {n : Nat} {f : FuncId} {R : Xit → FEnv → Heap → Prop} {e : FEnv} {h : Heap} : wc P pol K I n f il31l0 R e h = wc P pol K I n f il31l0b R e h := (fun x => x) rfl

noncomputable def il31l1b : C :=
  .seq (.seq (.ops ([
  ⟨some 12, none, none, .objs [], .mv (.v 6)⟩,
  ⟨some 13, none, none, .objs [], .mv (.v 1)⟩,
  ⟨some 14, none, none, .objs [], .lenS (.v 13)⟩,
  ⟨some 15, none, none, .objs [], .bin .lss false (.v 12) (.v 14)⟩])) <|
  .cond (.v 15) (.nop) (.exit 0)) <|
  .seq (.block 1 (.seq (.ops ([
    ⟨some 18, none, none, .objs [], .ld true 2 (.v 2)⟩,
    ⟨some 19, none, none, .objs [], .mv (.v 6)⟩,
    ⟨some 20, none, none, .objs [], .call (.c (.fn (.func 17) [] [])) [(.v 18), (.v 19)]⟩,
    ⟨some 7, none, none, .objs [], .nw 9 (.agg [(.sc (.int .i64 0)), (.sc (.int .i64 0)), (.sc (.int .i64 0)), (.sc (.int .i64 0)), (.sc (.int .i64 0)), (.sc (.int .i64 0)), (.sc (.int .i64 0)), (.sc (.int .i64 0)), (.sc (.int .i64 0))])⟩,
    ⟨none, none, none, .objs [], .st 9 (.v 7) (.v 20)⟩])) <|
    .seq (.seq (.ops ([
    ⟨some 8, none, none, .objs [], .mv (.c (.sc (.int .i64 0)))⟩])) <|
    .block 2 (.loop (some [1, 2, 5, 6, 7, 8]) il31l0)) <|
    .ops ([
    ⟨some 68, none, none, .objs [], .mv (.v 5)⟩,
    ⟨some 69, none, none, .objs [], .ld true 9 (.v 7)⟩,
    ⟨some 70, none, none, .objs [], .bs false 9 (.agg [(.sc (.int .i64 0)), (.sc (.int .i64 0)), (.sc (.int .i64 0)), (.sc (.int .i64 0)), (.sc (.int .i64 0)), (.sc (.int .i64 0)), (.sc (.int .i64 0)), (.sc (.int .i64 0)), (.sc (.int .i64 0))]) 1 [(0, (.v 69))]⟩,
    ⟨some 71, none, none, .objs [], .app 9 72 (.v 68) (.v 70)⟩,
    ⟨some 5, none, none, .objs [], .gmv 9 (.v 71)⟩]))) <|
  .ops ([
  ⟨some 16, none, none, .objs [], .mv (.v 6)⟩,
  ⟨some 17, none, none, .objs [], .bin .add false (.v 16) (.c (.sc (.int .i64 1)))⟩,
  ⟨some 6, none, none, .objs [], .mv (.v 17)⟩])
noncomputable def il31l1 : C := il31l1b
theorem il31l1_go {P : Program} {pol : Pol} {K : Oracle} {I : Inl} {n : Nat} {f : FuncId} {R : Xit → FEnv → Heap → Prop} {e : FEnv} {h : Heap} : wc P pol K I n f il31l1 R e h = wc P pol K I n f il31l1b R e h := (fun x => x) rfl

/-- isochron/isochronref11.Round -/
noncomputable def il31c : C :=
  .seq (.ops ([
  ⟨some 2, none, none, .objs [], .bx false (.v 0)⟩,
  ⟨some 4, none, none, .objs [], .mv (.c (.sc (.slice none 0 0)))⟩])) <|
  .seq (.ops ([
  ⟨some 5, none, none, .objs [], .gmv 9 (.c (.sc (.slice none 0 0)))⟩])) <|
  .seq (.seq (.ops ([
  ⟨some 6, none, none, .objs [], .mv (.c (.sc (.int .i64 0)))⟩])) <|
  .block 0 (.loop (some [1, 2, 5, 6]) il31l1)) <|
  .seq (.ops ([
  ⟨some 72, none, none, .objs [], .mv (.v 5)⟩,
  ⟨some 4, none, none, .objs [], .mv (.v 72)⟩])) <|
  .ret

theorem il31_eq : cFn Try.prog pol 31 = some ⟨73, il31c, [(4, none)]⟩ := by kernel_rfl

/-- isochron/isochronref10.Master -/
noncomputable def il32c : C :=
  .seq (.ops ([
  ⟨some 1, none, none, .objs [], .bx false (.v 0)⟩,
  ⟨some 2, none, none, .objs [], .mv (.c (.sc (.bool false)))⟩])) <|
  .seq (.ops ([
  ⟨some 3, none, none, .objs [], .fa 0 (.v 1)⟩,
  ⟨some 4, none, none, .objs [], .ld false 1 (.v 3)⟩,
  ⟨some 5, none, none, .objs [], .call (.c (.fn (.func 46) [] [])) [(.v 4), (.c (.sc (.int .i64 0))), (.c (.sc (.int .i64 255)))]⟩,
  ⟨some 6, none, none, .objs [], .mv (.v 5)⟩,
  ⟨some 7, some (6, true), none, .objs [], .fa 1 (.v 1)⟩,
  ⟨some 8, some (6, true), none, .objs [], .ld false 1 (.v 7)⟩,
  ⟨some 9, some (6, true), none, .objs [], .call (.c (.fn (.func 46) [] [])) [(.v 8), (.c (.sc (.int .i64 0))), (.c (.sc (.int .i64 255)))]⟩,
  ⟨some 10, none, none, .objs [], .pk (.v 6) (.v 9) (.c (.sc (.bool false)))⟩,
  ⟨some 11, none, none, .objs [], .mv (.v 10)⟩,
  ⟨some 12, some (11, true), none, .objs [], .fa 2 (.v 1)⟩,
  ⟨some 13, some (11, true), none, .objs [], .ld false 1 (.v 12)⟩,
  ⟨some 14, some (11, true), none, .objs [], .call (.c (.fn (.func 46) [] [])) [(.v 13), (.c (.sc (.int .i64 0))), (.c (.sc (.int .i64 255)))]⟩] ++ mkL [1, 11, 14] ([
  ⟨some 15, none, none, .objs [], .pk (.v 11) (.v 14) (.c (.sc (.bool false)))⟩,
  ⟨some 16, none, none, .objs [], .mv (.v 15)⟩,
  ⟨some 17, some (16, true), none, .objs [], .fa 3 (.v 1)⟩,
  ⟨some 18, some (16, true), none, .objs [], .ld false 1 (.v 17)⟩,
  ⟨some 19, some (16, true), none, .objs [], .call (.c (.fn (.func 46) [] [])) [(.v 18), (.c (.sc (.int .i64 0))), (.c (.sc (.int .i64 65535)))]⟩,
  ⟨some 20, none, none, .objs [], .pk (.v 16) (.v 19) (.c (.sc (.bool false)))⟩,
  ⟨some 21, none, none, .objs [], .mv (.v 20)⟩,
  ⟨some 22, some (21, true), none, .objs [], .fa 4 (.v 1)⟩,
  ⟨some 23, some (21, true), none, .objs [], .ld false 1 (.v 22)⟩,
  ⟨some 24, some (21, true), none, .objs [], .call (.c (.fn (.func 46) [] [])) [(.v 23), (.c (.sc (.int .i64 0))), (.c (.sc (.int .i64 255)))]⟩,
  ⟨some 25, none, none, .objs [], .pk (.v 21) (.v 24) (.c (.sc (.bool false)))⟩,
  ⟨some 26, none, none, .objs [], .mv (.v 25)⟩,
  ⟨some 27, some (26, true), none, .objs [], .fa 5 (.v 1)⟩,
  ⟨some 28, some (26, true), none, .objs [], .ld false 1 (.v 27)⟩] ++ mkL [26, 28] ([
  ⟨some 29, some (26, true), none, .objs [], .call (.c (.fn (.func 46) [] [])) [(.v 28), (.c (.sc (.int .i64 0))), (.c (.sc (.int .i64 281474976710655)))]⟩,
  ⟨some 30, none, none, .objs [], .pk (.v 26) (.v 29) (.c (.sc (.bool false)))⟩,
  ⟨some 2, none, none, .objs [], .mv (.v 30)⟩])))) <|
  .ret

theorem il32_eq : cFn Try.prog pol 32 = some ⟨31, il32c, [(2, none)]⟩ := by kernel_rfl

/-- isochron/elect.inside -/
noncomputable def il33c : C :=
  .seq (.ops ([
  ⟨some 6, none, none, .objs [], .mv (.c (.sc (.bool false)))⟩])) <|
  .seq (.ops ([
  ⟨some 7, none, none, .objs [], .mv (.v 1)⟩,
  ⟨some 8, none, none, .objs [], .mv (.v 0)⟩,
  ⟨some 9, none, none, .objs [], .bin .leq false (.v 7) (.v 8)⟩,
  ⟨some 10, none, none, .objs [], .mv (.v 9)⟩,
  ⟨some 11, some (10, true), none, .objs [], .mv (.v 0)⟩,
  ⟨some 12, some (10, true), none, .objs [], .mv (.v 2)⟩,
  ⟨some 13, some (10, true), none, .objs [], .bin .leq false (.v 11) (.v 12)⟩,
  ⟨some 14, none, none, .objs [], .pk (.v 10) (.v 13) (.c (.sc (.bool false)))⟩,
  ⟨some 6, none, none, .objs [], .mv (.v 14)⟩])) <|
  .ret

theorem il33_eq : cFn Try.prog pol 33 = some ⟨15, il33c, [(6, none)]⟩ := by kernel_rfl

noncomputable def il34l0b : C :=
  .seq (.ops ([
  ⟨some 15, none, none, .objs [], .bin .lss false (.v 14) (.c (.sc (.int .i64 4)))⟩])) <|
  .seq (.cond (.v 15) (.nop) (.exit 0)) <|
  .seq (.block 1 (.seq (.ops ([
    ⟨some 16, none, none, .objs [], .ixA false 1 4 1 (.v 13) (.v 14)⟩,
    ⟨some 4, none, none, .objs [], .mv (.v 16)⟩])) <|
    .seq (.ops ([
    ⟨some 17, none, none, .objs [], .mv (.v 4)⟩,
    ⟨some 18, none, none, .objs [], .call (.c (.fn (.func 47) [] [])) [(.v 17), (.c (.sc (.int .i64 0))), (.c (.sc (.int .i64 255)))]⟩,
    ⟨some 19, none, none, .objs [], .nt (.v 18)⟩])) <|
    .cond (.v 19) (.seq (.ops ([
      ⟨some 2, none, none, .objs [], .mv (.c (.sc (.int .i64 201)))⟩])) <|
      .ret) (.nop))) <|
  .ops ([
  ⟨some 20, none, none, .objs [], .bin .add false (.v 14) (.c (.sc (.int .i64 1)))⟩,
  ⟨some 14, none, none, .objs [], .mv (.v 20)⟩])
noncomputable def il34l0 : C := il34l0b
theorem il34l0_go {P : Program} {pol : Pol} {K : Oracle} {I : Inl} {n : Nat} {f : FuncId} {R : Xit → FEnv → Heap → Prop} {e : FEnv} {h : Heap} : wc P pol K I n f il34l0 R e h = wc P pol K I n f il34l0b R e h := (fun x => x) rfl

/-- isochron/ptp.CheckMaster -/
noncomputable def il34c : C :=
  .seq (.ops ([
  ⟨some 1, none, none, .objs [], .bx false (.v 0)⟩,
  ⟨some 2, none, none, .objs [], .mv (.c (.sc (.int .i64 0)))⟩])) <|
  .seq (.seq (.ops ([
  ⟨some 5, none, none, .objs [], .fa 0 (.v 1)⟩,
  ⟨some 6, none, none, .objs [], .ld false 1 (.v 5)⟩,
  ⟨some 7, none, none, .objs [], .fa 1 (.v 1)⟩,
  ⟨some 8, none, none, .objs [], .ld false 1 (.v 7)⟩,
  ⟨some 9, none, none, .objs [], .fa 2 (.v 1)⟩,
  ⟨some 10, none, none, .objs [], .ld false 1 (.v 9)⟩,
  ⟨some 11, none, none, .objs [], .fa 4 (.v 1)⟩,
  ⟨some 12, none, none, .objs [], .ld false 1 (.v 11)⟩,
  ⟨some 13, none, none, .objs [], .bd [(.sc (.int .i64 0)), (.sc (.int .i64 0)), (.sc (.int .i64 0)), (.sc (.int .i64 0))] [(0, 1, (.v 6)), (1, 1, (.v 8)), (2, 1, (.v 10)), (3, 1, (.v 12))]⟩,
  ⟨some 14, none, none, .objs [], .mv (.c (.sc (.int .i64 0)))⟩])) <|
  .block 0 (.loop (some [1, 13, 14]) il34l0)) <|
  .seq (.seq (.ops ([
  ⟨some 21, none, none, .objs [], .fa 3 (.v 1)⟩,
  ⟨some 22, none, none, .objs [], .ld false 1 (.v 21)⟩,
  ⟨some 23, none, none, .objs [], .call (.c (.fn (.func 47) [] [])) [(.v 22), (.c (.sc (.int .i64 0))), (.c (.sc (.int .i64 65535)))]⟩,
  ⟨some 24, none, none, .objs [], .nt (.v 23)⟩,
  ⟨some 25, none, none, .objs [], .mv (.v 24)⟩,
  ⟨some 26, some (25, false), none, .objs [], .fa 5 (.v 1)⟩,
  ⟨some 27, some (25, false), none, .objs [], .ld false 1 (.v 26)⟩,
  ⟨some 28, some (25, false), none, .objs [], .call (.c (.fn (.func 47) [] [])) [(.v 27), (.c (.sc (.int .i64 0))), (.c (.sc (.int .i64 281474976710655)))]⟩,
  ⟨some 29, some (25, false), none, .objs [], .nt (.v 28)⟩,
  ⟨some 30, none, none, .objs [], .pk (.v 25) (.c (.sc (.bool true))) (.v 29)⟩])) <|
  .cond (.v 30) (.seq (.ops ([
    ⟨some 2, none, none, .objs [], .mv (.c (.sc (.int .i64 201)))⟩])) <|
    .ret) (.nop)) <|
  .seq (.ops ([
  ⟨some 2, none, none, .objs [], .mv (.c (.sc (.int .i64 0)))⟩])) <|
  .ret

theorem il34_eq : cFn Try.prog pol 34 = some ⟨31, il34c, [(2, none)]⟩ := by kernel_rfl

/-- isochron/elect.own -/
noncomputable def il35c : C :=
  .seq (.ops ([
  ⟨some 2, none, none, .objs [], .bx false (.v 0)⟩,
  ⟨some 4, none, none, .objs [], .nw 9 (.agg [(.sc (.int .i64 0)), (.sc (.int .i64 0)), (.sc (.int .i64 0)), (.sc (.int .i64 0)), (.sc (.int .i64 0)), (.sc (.int .i64 0)), (.sc (.int .i64 0)), (.sc (.int .i64 0)), (.sc (.int .i64 0))])⟩])) <|
  .seq (.ops ([
  ⟨some 5, none, none, .objs [], .fa 0 (.v 2)⟩,
  ⟨some 6, none, none, .objs [], .ld false 1 (.v 5)⟩,
  ⟨some 7, none, none, .objs [], .mv (.v 1)⟩,
  ⟨some 8, none, none, .objs [], .iaS 6 (.v 6) (.v 7)⟩,
  ⟨some 9, none, none, .objs [], .ld true 6 (.v 8)⟩,
  ⟨some 10, none, none, .objs [], .mv (.v 1)⟩,
  ⟨some 11, none, none, .objs [], .bd [(.sc (.int .i64 0)), (.sc (.int .i64 0)), (.sc (.int .i64 0)), (.sc (.int .i64 0)), (.sc (.int .i64 0)), (.sc (.int .i64 0)), (.sc (.int .i64 0)), (.sc (.int .i64 0)), (.sc (.int .i64 0))] [(0, 6, (.v 9)), (7, 1, (.v 10)), (8, 1, (.c (.sc (.int .i64 (-1)))))]⟩,
  ⟨none, none, none, .objs [], .st 9 (.v 4) (.v 11)⟩])) <|
  .ret

theorem il35_eq : cFn Try.prog pol 35 = some ⟨12, il35c, [(4, some (true, 9))]⟩ := by kernel_rfl

noncomputable def il36l0b : C :=
  .seq (.ops ([
  ⟨some 16, none, none, .objs [], .bin .lss false (.v 15) (.c (.sc (.int .i64 9)))⟩])) <|
  .seq (.cond (.v 16) (.nop) (.exit 0)) <|
  .seq (.block 1 (.seq (.ops ([
    ⟨some 17, none, none, .objs [], .mv (.v 15)⟩,
    ⟨some 7, none, none, .objs [], .mv (.v 17)⟩])) <|
    .seq (.opsD [] ([
    ⟨some 18, none, none, .objs [], .mv (.v 7)⟩,
    ⟨some 19, none, none, .objs [], .iaA 9 1 (.v 5) (.v 18)⟩,
    ⟨some 20, none, none, .objs [(.v 19)], .ld false 1 (.v 19)⟩,
    ⟨some 21, none, none, .objs [], .mv (.v 7)⟩,
    ⟨some 22, none, none, .objs [], .iaA 9 1 (.v 6) (.v 21)⟩,
    ⟨some 23, none, none, .objs [(.v 22)], .ld false 1 (.v 22)⟩,
    ⟨some 24, none, none, .objs [], .bin .neq false (.v 20) (.v 23)⟩])) <|
    .cond (.v 24) (.exit 0) (.nop))) <|
  .ops ([
  ⟨some 25, none, none, .objs [], .bin .add false (.v 15) (.c (.sc (.int .i64 1)))⟩,
  ⟨some 15, none, none, .objs [], .mv (.v 25)⟩])
noncomputable def il36l0 : C := il36l0b
theorem il36l0_go {P : Program} {pol : Pol} {K : Oracle} {I : Inl} {n : Nat} {f : FuncId} {R : Xit → FEnv → Heap → Prop} {e : FEnv} {h : Heap} : wc P pol K I n f il36l0 R e h = wc P pol K I n f il36l0b R e h := (fun x => x) rfl

/-- (isochron/elect.vector).compare -/
noncomputable def il36c : C :=
  .seq (.ops ([
  ⟨some 2, none, none, .objs [], .bx false (.v 0)⟩,
  ⟨some 3, none, none, .objs [], .bx false (.v 1)⟩,
  ⟨some 4, none, none, .objs [], .mv (.c (.sc (.int .i64 0)))⟩])) <|
  .seq (.seq (.ops ([
  ⟨some 8, none, none, .objs [], .ld true 9 (.v 2)⟩,
  ⟨some 9, none, none, .objs [], .ld true 9 (.v 3)⟩,
  ⟨some 10, none, none, .objs [], .raw (opOf Try.prog 36 1 2)⟩])) <|
  .cond (.v 10) (.seq (.ops ([
    ⟨some 4, none, none, .objs [], .mv (.c (.sc (.int .i64 0)))⟩])) <|
    .ret) (.nop)) <|
  .seq (.opsD [(1, 2), (0, 4), (1, 4), (2, 4), (3, 4), (0, 5), (1, 5), (2, 5), (3, 5)] ([
  ⟨some 11, none, none, .objs [(.v 2)], .ld true 9 (.v 2)⟩,
  ⟨some 12, none, none, .cal (.c (.fn (.func 48) [] [])) [(.v 11)], .call (.c (.fn (.func 48) [] [])) [(.v 11)]⟩,
  ⟨some 13, none, none, .objs [(.v 3)], .ld true 9 (.v 3)⟩,
  ⟨some 14, none, none, .cal (.c (.fn (.func 48) [] [])) [(.v 13)], .call (.c (.fn (.func 48) [] [])) [(.v 13)]⟩,
  ⟨some 5, none, none, .objs [], .nw 9 (.agg [(.sc (.int .i64 0)), (.sc (.int .i64 0)), (.sc (.int .i64 0)), (.sc (.int .i64 0)), (.sc (.int .i64 0)), (.sc (.int .i64 0)), (.sc (.int .i64 0)), (.sc (.int .i64 0)), (.sc (.int .i64 0))])⟩,
  ⟨some 6, none, none, .objs [], .nw 9 (.agg [(.sc (.int .i64 0)), (.sc (.int .i64 0)), (.sc (.int .i64 0)), (.sc (.int .i64 0)), (.sc (.int .i64 0)), (.sc (.int .i64 0)), (.sc (.int .i64 0)), (.sc (.int .i64 0)), (.sc (.int .i64 0))])⟩,
  ⟨none, none, none, .objs [(.v 5)], .st 9 (.v 5) (.v 12)⟩] ++ mkL [5, 6, 14] ([
  ⟨none, none, none, .objs [(.v 6)], .st 9 (.v 6) (.v 14)⟩]))) <|
  .seq (.ops ([
  ⟨some 7, none, none, .objs [], .mv (.c (.sc (.int .i64 0)))⟩])) <|
  .seq (.nop) <|
  .seq (.seq (.ops ([
  ⟨some 15, none, none, .objs [], .mv (.c (.sc (.int .i64 0)))⟩])) <|
  .block 0 (.loop (some [5, 6, 7, 15]) il36l0)) <|
  .seq (.opsD [] ([
  ⟨some 26, none, none, .objs [], .mv (.v 7)⟩,
  ⟨some 27, none, none, .objs [], .iaA 9 1 (.v 5) (.v 26)⟩,
  ⟨some 28, none, none, .objs [(.v 27)], .ld false 1 (.v 27)⟩,
  ⟨some 29, none, none, .objs [], .mv (.v 7)⟩,
  ⟨some 30, none, none, .objs [], .iaA 9 1 (.v 6) (.v 29)⟩,
  ⟨some 31, none, none, .objs [(.v 30)], .ld false 1 (.v 30)⟩,
  ⟨some 32, none, none, .cal (.c (.fn (.func 49) [] [])) [(.v 28), (.v 31)], .call (.c (.fn (.func 49) [] [])) [(.v 28), (.v 31)]⟩,
  ⟨some 4, none, none, .objs [], .mv (.v 32)⟩])) <|
  .ret

theorem il36_eq : cFn Try.prog pol 36 = some ⟨33, il36c, [(4, none)]⟩ := by kernel_rfl
theorem raw36_1_2 {e : FEnv} {h : Heap} : iStep Try.prog pol 36 e h (.raw (opOf Try.prog 36 1 2)) = vOf h (binE Try.prog false 76 (.tmp 8) (.tmp 9) (Src.get e (.v 8)) (Src.get e (.v 9))) := raw_eql (x := (.tmp 8)) (y := (.tmp 9)) (s := 76) (by kernel_rfl)

noncomputable def il37l0b : C :=
  .seq (.seq (.ops ([
  ⟨some 34, none, none, .objs [], .mv (.v 7)⟩,
  ⟨some 35, none, none, .objs [], .bin .lss false (.v 34) (.c (.sc (.int .i64 6)))⟩])) <|
  .cond (.v 35) (.nop) (.exit 0)) <|
  .seq (.block 1 (.seq (.opsD [] ([
    ⟨some 38, none, none, .objs [], .mv (.v 7)⟩,
    ⟨some 39, none, none, .objs [], .iaA 6 1 (.v 5) (.v 38)⟩,
    ⟨some 40, none, none, .objs [(.v 39)], .ld false 1 (.v 39)⟩,
    ⟨some 41, none, none, .objs [], .mv (.v 7)⟩,
    ⟨some 42, none, none, .objs [], .iaA 6 1 (.v 6) (.v 41)⟩,
    ⟨some 43, none, none, .objs [(.v 42)], .ld false 1 (.v 42)⟩,
    ⟨some 44, none, none, .objs [], .bin .neq false (.v 40) (.v 43)⟩])) <|
    .cond (.v 44) (.seq (.opsD [] ([
      ⟨some 45, none, none, .objs [], .mv (.v 7)⟩,
      ⟨some 46, none, none, .objs [], .iaA 6 1 (.v 5) (.v 45)⟩,
      ⟨some 47, none, none, .objs [(.v 46)], .ld false 1 (.v 46)⟩,
      ⟨some 48, none, none, .objs [], .mv (.v 7)⟩,
      ⟨some 49, none, none, .objs [], .iaA 6 1 (.v 6) (.v 48)⟩] ++ mkL [47, 49] ([
      ⟨some 50, none, none, .objs [(.v 49)], .ld false 1 (.v 49)⟩,
      ⟨some 51, none, none, .objs [], .bin .lss false (.v 47) (.v 50)⟩,
      ⟨some 4, none, none, .objs [], .mv (.v 51)⟩]))) <|
      .ret) (.nop))) <|
  .ops ([
  ⟨some 36, none, none, .objs [], .mv (.v 7)⟩,
  ⟨some 37, none, none, .objs [], .bin .add false (.v 36) (.c (.sc (.int .i64 1)))⟩,
  ⟨some 7, none, none, .objs [], .mv (.v 37)⟩])
noncomputable def il37l0 : C := il37l0b
theorem il37l0_go {P : Program} {pol : Pol} {K : Oracle} {I : Inl} {n : Nat} {f : FuncId} {R : Xit → FEnv → Heap → Prop} {e : FEnv} {h : Heap} : wc P pol K I n f il37l0 R e h = wc P pol K I n f il37l0b R e h := (fun x => x) rfl

/-- isochron/isochronref11.Less -/
noncomputable def il37c : C :=
  .seq (.ops ([
  ⟨some 2, none, none, .objs [], .bx false (.v 0)⟩,
  ⟨some 3, none, none, .objs [], .bx false (.v 1)⟩,
  ⟨some 4, none, none, .objs [], .mv (.c (.sc (.bool false)))⟩])) <|
  .seq (.ops ([
  ⟨some 8, none, none, .objs [], .fa 0 (.v 2)⟩,
  ⟨some 9, none, none, .objs [], .ld false 1 (.v 8)⟩,
  ⟨some 10, none, none, .objs [], .fa 1 (.v 2)⟩,
  ⟨some 11, none, none, .objs [], .ld false 1 (.v 10)⟩,
  ⟨some 12, none, none, .objs [], .fa 2 (.v 2)⟩,
  ⟨some 13, none, none, .objs [], .ld false 1 (.v 12)⟩,
  ⟨some 14, none, none, .objs [], .fa 3 (.v 2)⟩,
  ⟨some 15, none, none, .objs [], .ld false 1 (.v 14)⟩,
  ⟨some 16, none, none, .objs [], .fa 4 (.v 2)⟩,
  ⟨some 17, none, none, .objs [], .ld false 1 (.v 16)⟩,
  ⟨some 18, none, none, .objs [], .fa 5 (.v 2)⟩] ++ mkL [3, 9, 11, 13, 15, 17, 18] ([
  ⟨some 19, none, none, .objs [], .ld false 1 (.v 18)⟩,
  ⟨some 20, none, none, .objs [], .bd [(.sc (.int .i64 0)), (.sc (.int .i64 0)), (.sc (.int .i64 0)), (.sc (.int .i64 0)), (.sc (.int .i64 0)), (.sc (.int .i64 0))] [(0, 1, (.v 9)), (1, 1, (.v 11)), (2, 1, (.v 13)), (3, 1, (.v 15)), (4, 1, (.v 17)), (5, 1, (.v 19))]⟩,
  ⟨some 5, none, none, .objs [], .nw 6 (.agg [(.sc (.int .i64 0)), (.sc (.int .i64 0)), (.sc (.int .i64 0)), (.sc (.int .i64 0)), (.sc (.int .i64 0)), (.sc (.int .i64 0))])⟩,
  ⟨none, none, none, .objs [], .st 6 (.v 5) (.v 20)⟩]))) <|
  .seq (.ops ([
  ⟨some 21, none, none, .objs [], .fa 0 (.v 3)⟩,
  ⟨some 22, none, none, .objs [], .ld false 1 (.v 21)⟩,
  ⟨some 23, none, none, .objs [], .fa 1 (.v 3)⟩,
  ⟨some 24, none, none, .objs [], .ld false 1 (.v 23)⟩,
  ⟨some 25, none, none, .objs [], .fa 2 (.v 3)⟩,
  ⟨some 26, none, none, .objs [], .ld false 1 (.v 25)⟩,
  ⟨some 27, none, none, .objs [], .fa 3 (.v 3)⟩,
  ⟨some 28, none, none, .objs [], .ld false 1 (.v 27)⟩,
  ⟨some 29, none, none, .objs [], .fa 4 (.v 3)⟩,
  ⟨some 30, none, none, .objs [], .ld false 1 (.v 29)⟩] ++ mkL [3, 5, 22, 24, 26, 28, 30] ([
  ⟨some 31, none, none, .objs [], .fa 5 (.v 3)⟩,
  ⟨some 32, none, none, .objs [], .ld false 1 (.v 31)⟩,
  ⟨some 33, none, none, .objs [], .bd [(.sc (.int .i64 0)), (.sc (.int .i64 0)), (.sc (.int .i64 0)), (.sc (.int .i64 0)), (.sc (.int .i64 0)), (.sc (.int .i64 0))] [(0, 1, (.v 22)), (1, 1, (.v 24)), (2, 1, (.v 26)), (3, 1, (.v 28)), (4, 1, (.v 30)), (5, 1, (.v 32))]⟩,
  ⟨some 6, none, none, .objs [], .nw 6 (.agg [(.sc (.int .i64 0)), (.sc (.int .i64 0)), (.sc (.int .i64 0)), (.sc (.int .i64 0)), (.sc (.int .i64 0)), (.sc (.int .i64 0))])⟩,
  ⟨none, none, none, .objs [], .st 6 (.v 6) (.v 33)⟩]))) <|
  .seq (.seq (.ops ([
  ⟨some 7, none, none, .objs [], .mv (.c (.sc (.int .i64 0)))⟩])) <|
  .block 0 (.loop (some [5, 6, 7]) il37l0)) <|
  .seq (.ops ([
  ⟨some 4, none, none, .objs [], .mv (.c (.sc (.bool false)))⟩])) <|
  .ret

theorem il37_eq : cFn Try.prog pol 37 = some ⟨52, il37c, [(4, none)]⟩ := by kernel_rfl

/-- isochron/elect.Elect$1 -/
noncomputable def il38c : C :=
  .ops ([
  ⟨some 2, none, none, .objs [], .ld true 2 (.v 0)⟩,
  ⟨some 3, none, none, .objs [], .ld false 1 (.v 1)⟩,
  ⟨some 4, none, some [(.c (.fn (.func 39) [] [])), (.v 2), (.v 3)], .objs [], .call (.c (.fn (.func 39) [] [])) [(.v 2), (.v 3)]⟩,
  ⟨none, none, none, .objs [], .st 1 (.v 1) (.v 4)⟩])

theorem il38_eq : cFn Try.prog pol 38 = some ⟨5, il38c, []⟩ := by kernel_rfl

noncomputable def il39l0b : C :=
  .seq (.ops ([
  ⟨some 15, none, none, .objs [], .bin .lss false (.v 14) (.v 13)⟩])) <|
  .seq (.cond (.v 15) (.nop) (.exit 0)) <|
  .seq (.block 1 (.seq (.ops ([
    ⟨some 16, none, none, .objs [], .mv (.v 14)⟩,
    ⟨some 6, none, none, .objs [], .mv (.v 16)⟩])) <|
    .seq (.ops ([
    ⟨some 17, none, none, .objs [], .ld true 2 (.v 2)⟩,
    ⟨some 18, none, none, .objs [], .mv (.v 6)⟩,
    ⟨some 19, none, none, .objs [], .call (.c (.fn (.func 35) [] [])) [(.v 17), (.v 18)]⟩,
    ⟨some 7, none, none, .objs [], .nw 9 (.agg [(.sc (.int .i64 0)), (.sc (.int .i64 0)), (.sc (.int .i64 0)), (.sc (.int .i64 0)), (.sc (.int .i64 0)), (.sc (.int .i64 0)), (.sc (.int .i64 0)), (.sc (.int .i64 0)), (.sc (.int .i64 0))])⟩,
    ⟨none, none, none, .objs [], .st 9 (.v 7) (.v 19)⟩])) <|
    .seq (.seq (.ops ([
    ⟨some 20, none, none, .objs [], .ld true 2 (.v 2)⟩,
    ⟨some 21, none, none, .objs [], .mv (.v 1)⟩,
    ⟨some 22, none, none, .objs [], .mv (.v 6)⟩,
    ⟨some 23, none, none, .objs [], .call (.c (.fn (.func 50) [] [])) [(.v 20), (.v 21), (.v 22)]⟩])) <|
    .block 2 (.rangeF 34 (some [7]) (.v 23) [24] (rfOf Try.prog 39 0).1 (rfOf Try.prog 39 0).2)) <|
    .ops ([
    ⟨some 28, none, none, .objs [], .mv (.v 5)⟩,
    ⟨some 29, none, none, .objs [], .mv (.v 6)⟩] ++ mkL [1, 2, 4, 5, 7, 13, 14, 28, 29] ([
    ⟨some 30, none, none, .objs [], .ld true 9 (.v 7)⟩,
    ⟨some 31, none, none, .objs [], .iaS 9 (.v 28) (.v 29)⟩,
    ⟨none, none, none, .objs [], .st 9 (.v 31) (.v 30)⟩])))) <|
  .ops ([
  ⟨some 32, none, none, .objs [], .bin .add false (.v 14) (.c (.sc (.int .i64 1)))⟩,
  ⟨some 14, none, none, .objs [], .mv (.v 32)⟩])
noncomputable def il39l0 : C := il39l0b
theorem il39l0_go {P : Program} {pol : Pol} {K : Oracle} {I : Inl} {n : Nat} {f : FuncId} {R : Xit → FEnv → Heap → Prop} {e : FEnv} {h : Heap} : wc P pol K I n f il39l0 R e h = wc P pol K I n f il39l0b R e h := (fun x => x) rfl

/-- isochron/elect.round -/
noncomputable def il39c : C :=
  .seq (.ops ([
  ⟨some 2, none, none, .objs [], .bx false (.v 0)⟩,
  ⟨some 4, none, none, .objs [], .mv (.c (.sc (.slice none 0 0)))⟩])) <|
  .seq (.ops ([
  ⟨some 9, none, none, .objs [], .mv (.v 1)⟩,
  ⟨some 10, none, none, .objs [], .lenS (.v 9)⟩,
  ⟨some 11, none, none, .objs [], .raw (opOf Try.prog 39 1 2)⟩,
  ⟨some 5, none, none, .objs [], .mv (.v 11)⟩])) <|
  .seq (.seq (.ops ([
  ⟨some 12, none, none, .objs [], .mv (.v 5)⟩,
  ⟨some 13, none, none, .objs [], .lenS (.v 12)⟩,
  ⟨some 14, none, none, .objs [], .mv (.c (.sc (.int .i64 0)))⟩])) <|
  .block 0 (.loop (some [1, 2, 4, 5, 13, 14]) il39l0)) <|
  .seq (.ops ([
  ⟨some 33, none, none, .objs [], .mv (.v 5)⟩,
  ⟨some 4, none, none, .objs [], .mv (.v 33)⟩])) <|
  .ret

theorem il39_eq : cFn Try.prog pol 39 = some ⟨34, il39c, [(4, none)]⟩ := by kernel_rfl
theorem raw39_1_2 {e : FEnv} {h : Heap} : iStep Try.prog pol 39 e h (.raw (opOf Try.prog 39 1 2)) = mkSl 9 72 (.agg [(.sc (.int .i64 0)), (.sc (.int .i64 0)), (.sc (.int .i64 0)), (.sc (.int .i64 0)), (.sc (.int .i64 0)), (.sc (.int .i64 0)), (.sc (.int .i64 0)), (.sc (.int .i64 0)), (.sc (.int .i64 0))]) h (asNat (Src.get e (.v 10))) (asNat (Src.get e (.v 10))) := raw_makeSlice (t := 47) (l := (.tmp 10)) (c := (.tmp 10)) (elem := 33) (by kernel_rfl) (by kernel_rfl) (by kernel_rfl) (by kernel_rfl) (by kernel_rfl) (by kernel_rfl)

noncomputable def il40l0b : C :=
  .seq (.seq (.ops ([
  ⟨some 15, none, none, .objs [], .mv (.v 7)⟩,
  ⟨some 16, none, none, .objs [], .mv (.v 5)⟩,
  ⟨some 17, none, none, .objs [], .bin .lss false (.v 15) (.v 16)⟩])) <|
  .cond (.v 17) (.nop) (.exit 0)) <|
  .seq (.block 1 (.ops ([
    ⟨some 20, none, none, .objs [], .mv (.v 6)⟩,
    ⟨some 21, none, none, .objs [], .bs false 1 (.sc (.int .i64 0)) 1 [(0, (.c (.sc (.int .i64 (-1)))))]⟩,
    ⟨some 22, none, none, .objs [], .app 1 8 (.v 20) (.v 21)⟩,
    ⟨some 6, none, none, .objs [], .gmv 1 (.v 22)⟩]))) <|
  .ops ([
  ⟨some 18, none, none, .objs [], .mv (.v 7)⟩,
  ⟨some 19, none, none, .objs [], .bin .add false (.v 18) (.c (.sc (.int .i64 1)))⟩,
  ⟨some 7, none, none, .objs [], .mv (.v 19)⟩])
noncomputable def il40l0 : C := il40l0b
theorem il40l0_go {P : Program} {pol : Pol} {K : Oracle} {I : Inl} {n : Nat} {f : FuncId} {R : Xit → FEnv → Heap → Prop} {e : FEnv} {h : Heap} : wc P pol K I n f il40l0 R e h = wc P pol K I n f il40l0b R e h := (fun x => x) rfl

noncomputable def il40l1b : C :=
  .seq (.seq (.ops ([
  ⟨some 31, none, none, .objs [], .mv (.v 9)⟩,
  ⟨some 32, none, none, .objs [], .fa 1 (.v 2)⟩,
  ⟨some 33, none, none, .objs [], .ld false 1 (.v 32)⟩,
  ⟨some 34, none, none, .objs [], .lenS (.v 33)⟩,
  ⟨some 35, none, none, .objs [], .bin .lss false (.v 31) (.v 34)⟩])) <|
  .cond (.v 35) (.nop) (.exit 4)) <|
  .seq (.block 5 (.seq (.opsD [(7, 12), (11, 12)] ([
    ⟨some 38, none, none, .objs [], .fa 1 (.v 2)⟩,
    ⟨some 39, none, none, .objs [(.v 38)], .ld false 1 (.v 38)⟩,
    ⟨some 40, none, none, .objs [], .mv (.v 9)⟩,
    ⟨some 41, none, none, .objs [], .iaS 2 (.v 39) (.v 40)⟩,
    ⟨some 42, none, none, .objs [], .iaA 2 1 (.v 41) (.c (.sc (.int .i64 0)))⟩,
    ⟨some 43, none, none, .objs [(.v 42)], .ld false 1 (.v 42)⟩,
    ⟨some 44, none, none, .objs [], .fa 1 (.v 2)⟩,
    ⟨some 45, none, none, .objs [(.v 44)], .ld false 1 (.v 44)⟩,
    ⟨some 46, none, none, .objs [], .mv (.v 9)⟩] ++ mkL [2, 5, 6, 8, 9, 43, 45, 46] ([
    ⟨some 47, none, none, .objs [], .iaS 2 (.v 45) (.v 46)⟩,
    ⟨some 48, none, none, .objs [], .iaA 2 1 (.v 47) (.c (.sc (.int .i64 1)))⟩,
    ⟨some 49, none, none, .objs [(.v 48)], .ld false 1 (.v 48)⟩,
    ⟨some 10, none, none, .objs [], .mv (.v 43)⟩,
    ⟨some 11, none, none, .objs [], .mv (.v 49)⟩]))) <|
    .seq (.seq (.ops ([
    ⟨some 50, none, none, .objs [], .mv (.v 6)⟩,
    ⟨some 51, none, none, .objs [], .mv (.v 10)⟩,
    ⟨some 52, none, none, .objs [], .iaS 1 (.v 50) (.v 51)⟩,
    ⟨some 53, none, none, .objs [], .ld false 1 (.v 52)⟩,
    ⟨some 54, none, none, .objs [], .mv (.v 8)⟩,
    ⟨some 55, none, none, .objs [], .bin .eql false (.v 53) (.v 54)⟩,
    ⟨some 56, none, none, .objs [], .mv (.v 55)⟩,
    ⟨some 57, some (56, true), none, .objs [], .mv (.v 6)⟩,
    ⟨some 58, some (56, true), none, .objs [], .mv (.v 11)⟩] ++ mkL [2, 5, 6, 8, 9, 10, 11, 56, 57, 58] ([
    ⟨some 59, some (56, true), none, .objs [], .iaS 1 (.v 57) (.v 58)⟩,
    ⟨some 60, some (56, true), none, .objs [], .ld false 1 (.v 59)⟩,
    ⟨some 61, some (56, true), none, .objs [], .bin .lss false (.v 60) (.c (.sc (.int .i64 0)))⟩,
    ⟨some 62, none, none, .objs [], .pk (.v 56) (.v 61) (.c (.sc (.bool false)))⟩]))) <|
    .cond (.v 62) (.ops ([
      ⟨some 63, none, none, .objs [], .mv (.v 6)⟩,
      ⟨some 64, none, none, .objs [], .mv (.v 11)⟩,
      ⟨some 65, none, none, .objs [], .mv (.v 8)⟩,
      ⟨some 66, none, none, .objs [], .bin .add false (.v 65) (.c (.sc (.int .i64 1)))⟩,
      ⟨some 67, none, none, .objs [], .iaS 1 (.v 63) (.v 64)⟩,
      ⟨none, none, none, .objs [], .st 1 (.v 67) (.v 66)⟩])) (.nop)) <|
    .seq (.ops ([
    ⟨some 68, none, none, .objs [], .mv (.v 6)⟩,
    ⟨some 69, none, none, .objs [], .mv (.v 11)⟩,
    ⟨some 70, none, none, .objs [], .iaS 1 (.v 68) (.v 69)⟩,
    ⟨some 71, none, none, .objs [], .ld false 1 (.v 70)⟩] ++ mkL [2, 5, 6, 8, 9, 10, 71] ([
    ⟨some 72, none, none, .objs [], .mv (.v 8)⟩,
    ⟨some 73, none, none, .objs [], .bin .eql false (.v 71) (.v 72)⟩,
    ⟨some 74, none, none, .objs [], .mv (.v 73)⟩,
    ⟨some 75, some (74, true), none, .objs [], .mv (.v 6)⟩,
    ⟨some 76, some (74, true), none, .objs [], .mv (.v 10)⟩,
    ⟨some 77, some (74, true), none, .objs [], .iaS 1 (.v 75) (.v 76)⟩,
    ⟨some 78, some (74, true), none, .objs [], .ld false 1 (.v 77)⟩,
    ⟨some 79, some (74, true), none, .objs [], .bin .lss false (.v 78) (.c (.sc (.int .i64 0)))⟩,
    ⟨some 80, none, none, .objs [], .pk (.v 74) (.v 79) (.c (.sc (.bool false)))⟩]))) <|
    .cond (.v 80) (.ops ([
      ⟨some 81, none, none, .objs [], .mv (.v 6)⟩,
      ⟨some 82, none, none, .objs [], .mv (.v 10)⟩,
      ⟨some 83, none, none, .objs [], .mv (.v 8)⟩,
      ⟨some 84, none, none, .objs [], .bin .add false (.v 83) (.c (.sc (.int .i64 1)))⟩,
      ⟨some 85, none, none, .objs [], .iaS 1 (.v 81) (.v 82)⟩] ++ mkL [2, 5, 6, 8, 9, 84, 85] ([
      ⟨none, none, none, .objs [], .st 1 (.v 85) (.v 84)⟩]))) (.nop))) <|
  .ops ([
  ⟨some 36, none, none, .objs [], .mv (.v 9)⟩,
  ⟨some 37, none, none, .objs [], .bin .add false (.v 36) (.c (.sc (.int .i64 1)))⟩,
  ⟨some 9, none, none, .objs [], .mv (.v 37)⟩])
noncomputable def il40l1 : C := il40l1b
theorem il40l1_go {P : Program} {pol : Pol} {K : Oracle} {I : Inl} {n : Nat} {f : FuncId} {R : Xit → FEnv → Heap → Prop} {e : FEnv} {h : Heap} : wc P pol K I n f il40l1 R e h = wc P pol K I n f il40l1b R e h := (fun x => x) rfl

noncomputable def il40l2b : C :=
  .seq (.seq (.ops ([
  ⟨some 26, none, none, .objs [], .mv (.v 8)⟩,
  ⟨some 27, none, none, .objs [], .mv (.v 5)⟩,
  ⟨some 28, none, none, .objs [], .bin .lss false (.v 26) (.v 27)⟩])) <|
  .cond (.v 28) (.nop) (.exit 2)) <|
  .seq (.block 3 (.seq (.ops ([
    ⟨some 9, none, none, .objs [], .mv (.c (.sc (.int .i64 0)))⟩])) <|
    .block 4 (.loop (some [2, 5, 6, 8, 9]) il40l1))) <|
  .ops ([
  ⟨some 29, none, none, .objs [], .mv (.v 8)⟩,
  ⟨some 30, none, none, .objs [], .bin .add false (.v 29) (.c (.sc (.int .i64 1)))⟩,
  ⟨some 8, none, none, .objs [], .mv (.v 30)⟩])
noncomputable def il40l2 : C := il40l2b
theorem il40l2_go {P : Program} {pol : Pol} {K : Oracle} {I : Inl} {n : Nat} {f : FuncId} {R : Xit → FEnv → Heap → Prop} {e : FEnv} {h : Heap} : wc P pol K I n f il40l2 R e h = wc P pol K I n f il40l2b R e h := (fun x => x) rfl

/-- isochron/isochronref11.Far -/
noncomputable def il40c : C :=
  .seq (.ops ([
  ⟨some 2, none, none, .objs [], .bx false (.v 0)⟩,
  ⟨some 4, none, none, .objs [], .mv (.c (.sc (.slice none 0 0)))⟩])) <|
  .seq (.ops ([
  ⟨some 12, none, none, .objs [], .fa 0 (.v 2)⟩,
  ⟨some 13, none, none, .objs [], .ld false 1 (.v 12)⟩,
  ⟨some 14, none, none, .objs [], .lenS (.v 13)⟩,
  ⟨some 5, none, none, .objs [], .mv (.v 14)⟩])) <|
  .seq (.ops ([
  ⟨some 6, none, none, .objs [], .gmv 1 (.c (.sc (.slice none 0 0)))⟩])) <|
  .seq (.seq (.ops ([
  ⟨some 7, none, none, .objs [], .mv (.c (.sc (.int .i64 0)))⟩])) <|
  .block 0 (.loop (some [1, 2, 5, 6, 7]) il40l0)) <|
  .seq (.ops ([
  ⟨some 23, none, none, .objs [], .mv (.v 6)⟩,
  ⟨some 24, none, none, .objs [], .mv (.v 1)⟩,
  ⟨some 25, none, none, .objs [], .iaS 1 (.v 23) (.v 24)⟩,
  ⟨none, none, none, .objs [], .st 1 (.v 25) (.c (.sc (.int .i64 0)))⟩])) <|
  .seq (.seq (.ops ([
  ⟨some 8, none, none, .objs [], .mv (.c (.sc (.int .i64 0)))⟩])) <|
  .block 2 (.loop (some [2, 5, 6, 8]) il40l2)) <|
  .seq (.ops ([
  ⟨some 86, none, none, .objs [], .mv (.v 6)⟩,
  ⟨some 4, none, none, .objs [], .mv (.v 86)⟩])) <|
  .ret

theorem il40_eq : cFn Try.prog pol 40 = some ⟨87, il40c, [(4, none)]⟩ := by kernel_rfl

/-- isochron/isochronref11.other -/
noncomputable def il41c : C :=
  .seq (.ops ([
  ⟨some 2, none, none, .objs [], .bx false (.v 0)⟩,
  ⟨some 4, none, none, .objs [], .mv (.c (.sc (.int .i64 0)))⟩,
  ⟨some 5, none, none, .objs [], .mv (.c (.sc (.bool false)))⟩])) <|
  .seq (.seq (.ops ([
  ⟨some 6, none, none, .objs [], .iaA 2 1 (.v 2) (.c (.sc (.int .i64 0)))⟩,
  ⟨some 7, none, none, .objs [], .ld false 1 (.v 6)⟩,
  ⟨some 8, none, none, .objs [], .mv (.v 1)⟩,
  ⟨some 9, none, none, .objs [], .bin .eql false (.v 7) (.v 8)⟩])) <|
  .cond (.v 9) (.seq (.ops ([
    ⟨some 10, none, none, .objs [], .iaA 2 1 (.v 2) (.c (.sc (.int .i64 1)))⟩,
    ⟨some 11, none, none, .objs [], .ld false 1 (.v 10)⟩,
    ⟨some 4, none, none, .objs [], .mv (.v 11)⟩,
    ⟨some 5, none, none, .objs [], .mv (.c (.sc (.bool true)))⟩])) <|
    .ret) (.nop)) <|
  .seq (.opsD [(3, 6)] ([
  ⟨some 12, none, none, .objs [], .iaA 2 1 (.v 2) (.c (.sc (.int .i64 0)))⟩,
  ⟨some 13, none, none, .objs [(.v 12)], .ld false 1 (.v 12)⟩,
  ⟨some 14, none, none, .objs [], .iaA 2 1 (.v 2) (.c (.sc (.int .i64 1)))⟩] ++ mkL [1, 13, 14] ([
  ⟨some 15, none, none, .objs [(.v 14)], .ld false 1 (.v 14)⟩,
  ⟨some 16, none, none, .objs [], .mv (.v 1)⟩,
  ⟨some 17, none, none, .objs [], .bin .eql false (.v 15) (.v 16)⟩,
  ⟨some 4, none, none, .objs [], .mv (.v 13)⟩,
  ⟨some 5, none, none, .objs [], .mv (.v 17)⟩]))) <|
  .ret

theorem il41_eq : cFn Try.prog pol 41 = some ⟨18, il41c, [(4, none), (5, none)]⟩ := by kernel_rfl

/-- (isochron/isochronref11.Wild).Vector -/
noncomputable def il42c : C :=
  .seq (.ops ([
  ⟨some 1, none, none, .objs [], .bx false (.v 0)⟩,
  ⟨some 2, none, none, .objs [], .nw 9 (.agg [(.sc (.int .i64 0)), (.sc (.int .i64 0)), (.sc (.int .i64 0)), (.sc (.int .i64 0)), (.sc (.int .i64 0)), (.sc (.int .i64 0)), (.sc (.int .i64 0)), (.sc (.int .i64 0)), (.sc (.int .i64 0))])⟩])) <|
  .seq (.ops ([
  ⟨some 3, none, none, .objs [], .fa 0 (.v 1)⟩,
  ⟨some 4, none, none, .objs [], .ld false 1 (.v 3)⟩,
  ⟨some 5, none, none, .objs [], .bin .rem false (.v 4) (.c (.sc (.int .u8 4)))⟩,
  ⟨some 6, none, none, .objs [], .cv .i64 (.v 5)⟩,
  ⟨some 7, none, none, .objs [], .fa 0 (.v 1)⟩,
  ⟨some 8, none, none, .objs [], .ld false 1 (.v 7)⟩,
  ⟨some 9, none, none, .objs [], .bin .quo false (.v 8) (.c (.sc (.int .u8 4)))⟩,
  ⟨some 10, none, none, .objs [], .cv .i64 (.v 9)⟩,
  ⟨some 11, none, none, .objs [], .fa 1 (.v 1)⟩,
  ⟨some 12, none, none, .objs [], .ld false 1 (.v 11)⟩,
  ⟨some 13, none, none, .objs [], .cv .i64 (.v 12)⟩,
  ⟨some 14, none, none, .objs [], .bd [(.sc (.int .i64 0)), (.sc (.int .i64 0)), (.sc (.int .i64 0)), (.sc (.int .i64 0)), (.sc (.int .i64 0)), (.sc (.int .i64 0))] [(0, 1, (.v 6)), (3, 1, (.v 10)), (5, 1, (.v 13))]⟩] ++ mkL [1, 2, 14] ([
  ⟨some 15, none, none, .objs [], .fa 2 (.v 1)⟩,
  ⟨some 16, none, none, .objs [], .ld false 1 (.v 15)⟩,
  ⟨some 17, none, none, .objs [], .bin .rem false (.v 16) (.c (.sc (.int .u8 12)))⟩,
  ⟨some 18, none, none, .objs [], .cv .i64 (.v 17)⟩,
  ⟨some 19, none, none, .objs [], .fa 3 (.v 1)⟩,
  ⟨some 20, none, none, .objs [], .ld false 1 (.v 19)⟩,
  ⟨some 21, none, none, .objs [], .bin .rem false (.v 20) (.c (.sc (.int .u8 12)))⟩,
  ⟨some 22, none, none, .objs [], .cv .i64 (.v 21)⟩,
  ⟨some 23, none, none, .objs [], .fa 4 (.v 1)⟩,
  ⟨some 24, none, none, .objs [], .ld false 1 (.v 23)⟩,
  ⟨some 25, none, none, .objs [], .bin .rem false (.v 24) (.c (.sc (.int .u8 25)))⟩,
  ⟨some 26, none, none, .objs [], .cv .i64 (.v 25)⟩,
  ⟨some 27, none, none, .objs [], .bin .sub false (.v 26) (.c (.sc (.int .i64 1)))⟩,
  ⟨some 28, none, none, .objs [], .bd [(.sc (.int .i64 0)), (.sc (.int .i64 0)), (.sc (.int .i64 0)), (.sc (.int .i64 0)), (.sc (.int .i64 0)), (.sc (.int .i64 0)), (.sc (.int .i64 0)), (.sc (.int .i64 0)), (.sc (.int .i64 0))] [(0, 6, (.v 14)), (6, 1, (.v 18)), (7, 1, (.v 22)), (8, 1, (.v 27))]⟩] ++ mkL [2, 28] ([
  ⟨none, none, none, .objs [], .st 9 (.v 2) (.v 28)⟩])))) <|
  .ret

theorem il42_eq : cFn Try.prog pol 42 = some ⟨29, il42c, [(2, some (true, 9))]⟩ := by kernel_rfl

noncomputable def il43l0b : C :=
  .seq (.ops ([
  ⟨some 23, none, none, .objs [], .bin .lss false (.v 22) (.v 21)⟩])) <|
  .seq (.cond (.v 23) (.nop) (.exit 0)) <|
  .seq (.block 1 (.seq (.ops ([
    ⟨some 24, none, none, .objs [], .iaS 9 (.v 20) (.v 22)⟩,
    ⟨some 25, none, none, .objs [], .ld true 9 (.v 24)⟩,
    ⟨some 7, none, none, .objs [], .nw 9 (.agg [(.sc (.int .i64 0)), (.sc (.int .i64 0)), (.sc (.int .i64 0)), (.sc (.int .i64 0)), (.sc (.int .i64 0)), (.sc (.int .i64 0)), (.sc (.int .i64 0)), (.sc (.int .i64 0)), (.sc (.int .i64 0))])⟩,
    ⟨none, none, none, .objs [], .st 9 (.v 7) (.v 25)⟩])) <|
    .seq (.ops ([
    ⟨some 26, none, none, .objs [], .fa 0 (.v 7)⟩,
    ⟨some 27, none, none, .objs [], .ld true 6 (.v 26)⟩,
    ⟨some 28, none, none, .objs [], .call (.c (.fn (.func 34) [] [])) [(.v 27)]⟩,
    ⟨some 29, none, none, .objs [], .bin .eql false (.v 28) (.c (.sc (.int .i64 0)))⟩,
    ⟨some 30, none, none, .objs [], .mv (.v 29)⟩,
    ⟨some 31, some (30, true), none, .objs [], .fa 6 (.v 7)⟩,
    ⟨some 32, some (30, true), none, .objs [], .ld false 1 (.v 31)⟩,
    ⟨some 33, some (30, true), none, .objs [], .call (.c (.fn (.func 33) [] [])) [(.v 32), (.c (.sc (.int .i64 0))), (.c (.sc (.int .i64 11)))]⟩,
    ⟨some 34, none, none, .objs [], .pk (.v 30) (.v 33) (.c (.sc (.bool false)))⟩] ++ mkL [7, 20, 21, 22, 34] ([
    ⟨some 35, none, none, .objs [], .mv (.v 34)⟩,
    ⟨some 36, some (35, true), none, .objs [], .fa 7 (.v 7)⟩,
    ⟨some 37, some (35, true), none, .objs [], .ld false 1 (.v 36)⟩,
    ⟨some 38, some (35, true), none, .objs [], .call (.c (.fn (.func 33) [] [])) [(.v 37), (.c (.sc (.int .i64 0))), (.c (.sc (.int .i64 11)))]⟩,
    ⟨some 39, none, none, .objs [], .pk (.v 35) (.v 38) (.c (.sc (.bool false)))⟩,
    ⟨some 40, none, none, .objs [], .mv (.v 39)⟩,
    ⟨some 41, some (40, true), none, .objs [], .fa 8 (.v 7)⟩,
    ⟨some 42, some (40, true), none, .objs [], .ld false 1 (.v 41)⟩,
    ⟨some 43, some (40, true), none, .objs [], .call (.c (.fn (.func 33) [] [])) [(.v 42), (.c (.sc (.int .i64 (-1)))), (.c (.sc (.int .i64 23)))]⟩,
    ⟨some 44, none, none, .objs [], .pk (.v 40) (.v 43) (.c (.sc (.bool false)))⟩,
    ⟨some 8, none, none, .objs [], .mv (.v 44)⟩]))) <|
    .seq (.ops ([
    ⟨some 45, none, none, .objs [], .mv (.v 8)⟩,
    ⟨some 46, none, none, .objs [], .nt (.v 45)⟩])) <|
    .cond (.v 46) (.seq (.ops ([
      ⟨some 4, none, none, .objs [], .mv (.c (.sc (.int .i64 211)))⟩])) <|
      .ret) (.nop))) <| mkC [20, 21, 22] <|
  .ops ([
  ⟨some 47, none, none, .objs [], .bin .add false (.v 22) (.c (.sc (.int .i64 1)))⟩,
  ⟨some 22, none, none, .objs [], .mv (.v 47)⟩])
noncomputable def il43l0 : C := il43l0b
theorem il43l0_go {P : Program} {pol : Pol} {K : Oracle} {I : Inl} {n : Nat} {f : FuncId} {R : Xit → FEnv → Heap → Prop} {e : FEnv} {h : Heap} : wc P pol K I n f il43l0 R e h = wc P pol K I n f il43l0b R e h := (fun x => x) rfl

/-- isochron/elect.checkVectors -/
noncomputable def il43c : C :=
  .seq (.ops ([
  ⟨some 2, none, none, .objs [], .bx false (.v 0)⟩,
  ⟨some 4, none, none, .objs [], .mv (.c (.sc (.int .i64 0)))⟩])) <|
  .seq (.seq (.ops ([
  ⟨some 9, none, none, .objs [], .ld true 2 (.v 2)⟩,
  ⟨some 10, none, none, .objs [], .call (.c (.fn (.func 15) [] [])) [(.v 9)]⟩,
  ⟨some 5, none, none, .objs [], .mv (.v 10)⟩])) <|
  .seq (.ops ([
  ⟨some 11, none, none, .objs [], .mv (.v 5)⟩,
  ⟨some 12, none, none, .objs [], .bin .neq false (.v 11) (.c (.sc (.int .i64 0)))⟩])) <|
  .cond (.v 12) (.seq (.ops ([
    ⟨some 13, none, none, .objs [], .mv (.v 5)⟩,
    ⟨some 4, none, none, .objs [], .mv (.v 13)⟩])) <|
    .ret) (.nop)) <|
  .seq (.seq (.ops ([
  ⟨some 14, none, none, .objs [], .mv (.v 1)⟩,
  ⟨some 15, none, none, .objs [], .lenS (.v 14)⟩,
  ⟨some 16, none, none, .objs [], .fa 0 (.v 2)⟩,
  ⟨some 17, none, none, .objs [], .ld false 1 (.v 16)⟩,
  ⟨some 18, none, none, .objs [], .lenS (.v 17)⟩] ++ mkL [1, 15, 18] ([
  ⟨some 19, none, none, .objs [], .bin .neq false (.v 15) (.v 18)⟩]))) <|
  .cond (.v 19) (.seq (.ops ([
    ⟨some 4, none, none, .objs [], .mv (.c (.sc (.int .i64 211)))⟩])) <|
    .ret) (.nop)) <|
  .seq (.seq (.ops ([
  ⟨some 20, none, none, .objs [], .mv (.v 1)⟩,
  ⟨some 21, none, none, .objs [], .lenS (.v 20)⟩,
  ⟨some 22, none, none, .objs [], .mv (.c (.sc (.int .i64 0)))⟩])) <|
  .block 0 (.loop (some [20, 21, 22]) il43l0)) <|
  .seq (.ops ([
  ⟨some 4, none, none, .objs [], .mv (.c (.sc (.int .i64 0)))⟩])) <|
  .ret

theorem il43_eq : cFn Try.prog pol 43 = some ⟨48, il43c, [(4, none)]⟩ := by kernel_rfl

/-- isochron/elect.Roles$1 -/
noncomputable def il44c : C :=
  .seq (.ops ([
  ⟨some 3, none, none, .objs [], .nw 9 (.agg [(.sc (.int .i64 0)), (.sc (.int .i64 0)), (.sc (.int .i64 0)), (.sc (.int .i64 0)), (.sc (.int .i64 0)), (.sc (.int .i64 0)), (.sc (.int .i64 0)), (.sc (.int .i64 0)), (.sc (.int .i64 0))])⟩])) <|
  .seq (.opsD [] ([
  ⟨some 4, none, none, .objs [(.v 1)], .ld false 1 (.v 1)⟩,
  ⟨some 5, none, none, .objs [], .mv (.v 0)⟩,
  ⟨some 6, none, none, .objs [], .iaS 9 (.v 4) (.v 5)⟩,
  ⟨some 7, none, none, .objs [], .fa 0 (.v 6)⟩,
  ⟨some 8, none, none, .objs [(.v 7)], .ld true 6 (.v 7)⟩,
  ⟨some 9, none, none, .objs [(.v 1)], .ld false 1 (.v 1)⟩,
  ⟨some 10, none, none, .objs [], .mv (.v 0)⟩,
  ⟨some 11, none, none, .objs [], .iaS 9 (.v 9) (.v 10)⟩,
  ⟨some 12, none, none, .objs [], .fa 6 (.v 11)⟩,
  ⟨some 13, none, none, .objs [(.v 12)], .ld false 1 (.v 12)⟩,
  ⟨some 14, none, none, .objs [], .mv (.v 0)⟩,
  ⟨some 15, none, none, .objs [], .bd [(.sc (.int .i64 0)), (.sc (.int .i64 0)), (.sc (.int .i64 0)), (.sc (.int .i64 0)), (.sc (.int .i64 0)), (.sc (.int .i64 0)), (.sc (.int .i64 0)), (.sc (.int .i64 0)), (.sc (.int .i64 0))] [(0, 6, (.v 8)), (6, 1, (.v 13)), (7, 1, (.v 14))]⟩,
  ⟨none, none, none, .objs [(.v 3)], .st 9 (.v 3) (.v 15)⟩])) <|
  .ret

theorem il44_eq : cFn Try.prog pol 44 = some ⟨16, il44c, [(3, some (true, 9))]⟩ := by kernel_rfl

/-- isochron/elect.neighbours -/
noncomputable def il45c : C :=
  .seq (.ops ([
  ⟨some 2, none, none, .objs [], .bx false (.v 0)⟩,
  ⟨some 3, none, none, .objs [], .bx false (.v 1)⟩,
  ⟨some 4, none, none, .objs [], .mv (.c (.sc .nilFunc))⟩])) <|
  .seq (.ops ([
  ⟨some 5, none, none, .objs [], .fn 52 [] [(.v 2), (.v 3)]⟩,
  ⟨some 4, none, none, .objs [], .mv (.v 5)⟩])) <|
  .ret

theorem il45_eq : cFn Try.prog pol 45 = some ⟨6, il45c, [(4, none)]⟩ := by kernel_rfl

/-- isochron/isochronref10.in -/
noncomputable def il46c : C :=
  .seq (.ops ([
  ⟨some 6, none, none, .objs [], .mv (.c (.sc (.bool false)))⟩])) <|
  .seq (.ops ([
  ⟨some 7, none, none, .objs [], .mv (.v 0)⟩,
  ⟨some 8, none, none, .objs [], .mv (.v 1)⟩,
  ⟨some 9, none, none, .objs [], .bin .geq false (.v 7) (.v 8)⟩,
  ⟨some 10, none, none, .objs [], .mv (.v 9)⟩,
  ⟨some 11, some (10, true), none, .objs [], .mv (.v 0)⟩,
  ⟨some 12, some (10, true), none, .objs [], .mv (.v 2)⟩,
  ⟨some 13, some (10, true), none, .objs [], .bin .leq false (.v 11) (.v 12)⟩,
  ⟨some 14, none, none, .objs [], .pk (.v 10) (.v 13) (.c (.sc (.bool false)))⟩,
  ⟨some 6, none, none, .objs [], .mv (.v 14)⟩])) <|
  .ret

theorem il46_eq : cFn Try.prog pol 46 = some ⟨15, il46c, [(6, none)]⟩ := by kernel_rfl

/-- isochron/ptp.inside -/
noncomputable def il47c : C :=
  .seq (.ops ([
  ⟨some 6, none, none, .objs [], .mv (.c (.sc (.bool false)))⟩])) <|
  .seq (.ops ([
  ⟨some 7, none, none, .objs [], .mv (.v 1)⟩,
  ⟨some 8, none, none, .objs [], .mv (.v 0)⟩,
  ⟨some 9, none, none, .objs [], .bin .leq false (.v 7) (.v 8)⟩,
  ⟨some 10, none, none, .objs [], .mv (.v 9)⟩,
  ⟨some 11, some (10, true), none, .objs [], .mv (.v 0)⟩,
  ⟨some 12, some (10, true), none, .objs [], .mv (.v 2)⟩,
  ⟨some 13, some (10, true), none, .objs [], .bin .leq false (.v 11) (.v 12)⟩,
  ⟨some 14, none, none, .objs [], .pk (.v 10) (.v 13) (.c (.sc (.bool false)))⟩,
  ⟨some 6, none, none, .objs [], .mv (.v 14)⟩])) <|
  .ret

theorem il47_eq : cFn Try.prog pol 47 = some ⟨15, il47c, [(6, none)]⟩ := by kernel_rfl

/-- (isochron/elect.vector).fields -/
noncomputable def il48c : C :=
  .seq (.ops ([
  ⟨some 1, none, none, .objs [], .bx false (.v 0)⟩,
  ⟨some 2, none, none, .objs [], .nw 9 (.agg [(.sc (.int .i64 0)), (.sc (.int .i64 0)), (.sc (.int .i64 0)), (.sc (.int .i64 0)), (.sc (.int .i64 0)), (.sc (.int .i64 0)), (.sc (.int .i64 0)), (.sc (.int .i64 0)), (.sc (.int .i64 0))])⟩])) <|
  .seq (.ops ([
  ⟨some 4, none, none, .objs [], .fa 0 (.v 1)⟩,
  ⟨some 5, none, none, .objs [], .ld true 6 (.v 4)⟩,
  ⟨some 3, none, none, .objs [], .nw 6 (.agg [(.sc (.int .i64 0)), (.sc (.int .i64 0)), (.sc (.int .i64 0)), (.sc (.int .i64 0)), (.sc (.int .i64 0)), (.sc (.int .i64 0))])⟩,
  ⟨none, none, none, .objs [], .st 6 (.v 3) (.v 5)⟩])) <|
  .seq (.ops ([
  ⟨some 6, none, none, .objs [], .fa 0 (.v 3)⟩,
  ⟨some 7, none, none, .objs [], .ld false 1 (.v 6)⟩,
  ⟨some 8, none, none, .objs [], .fa 1 (.v 3)⟩,
  ⟨some 9, none, none, .objs [], .ld false 1 (.v 8)⟩,
  ⟨some 10, none, none, .objs [], .fa 2 (.v 3)⟩,
  ⟨some 11, none, none, .objs [], .ld false 1 (.v 10)⟩,
  ⟨some 12, none, none, .objs [], .fa 3 (.v 3)⟩,
  ⟨some 13, none, none, .objs [], .ld false 1 (.v 12)⟩] ++ mkL [1, 2, 3, 7, 9, 11, 13] ([
  ⟨some 14, none, none, .objs [], .fa 4 (.v 3)⟩,
  ⟨some 15, none, none, .objs [], .ld false 1 (.v 14)⟩,
  ⟨some 16, none, none, .objs [], .fa 5 (.v 3)⟩,
  ⟨some 17, none, none, .objs [], .ld false 1 (.v 16)⟩,
  ⟨some 18, none, none, .objs [], .fa 6 (.v 1)⟩,
  ⟨some 19, none, none, .objs [], .ld false 1 (.v 18)⟩,
  ⟨some 20, none, none, .objs [], .fa 7 (.v 1)⟩,
  ⟨some 21, none, none, .objs [], .ld false 1 (.v 20)⟩,
  ⟨some 22, none, none, .objs [], .fa 8 (.v 1)⟩,
  ⟨some 23, none, none, .objs [], .ld false 1 (.v 22)⟩,
  ⟨some 24, none, none, .objs [], .bd [(.sc (.int .i64 0)), (.sc (.int .i64 0)), (.sc (.int .i64 0)), (.sc (.int .i64 0)), (.sc (.int .i64 0)), (.sc (.int .i64 0)), (.sc (.int .i64 0)), (.sc (.int .i64 0)), (.sc (.int .i64 0))] [(0, 1, (.v 7)), (1, 1, (.v 9)), (2, 1, (.v 11)), (3, 1, (.v 13)), (4, 1, (.v 15)), (5, 1, (.v 17)), (6, 1, (.v 19)), (7, 1, (.v 21)), (8, 1, (.v 23))]⟩,
  ⟨none, none, none, .objs [], .st 9 (.v 2) (.v 24)⟩]))) <|
  .ret

theorem il48_eq : cFn Try.prog pol 48 = some ⟨25, il48c, [(2, some (true, 9))]⟩ := by kernel_rfl

/-- cmp.Compare[int] -/
noncomputable def il49c : C :=
  .seq (.ops ([
  ⟨some 4, none, none, .objs [], .mv (.c (.sc (.int .i64 0)))⟩])) <|
  .seq (.ops ([
  ⟨some 7, none, none, .objs [], .mv (.v 0)⟩,
  ⟨some 8, none, none, .objs [], .call (.c (.fn (.func 53) [] [])) [(.v 7)]⟩,
  ⟨some 5, none, none, .objs [], .mv (.v 8)⟩])) <|
  .seq (.ops ([
  ⟨some 9, none, none, .objs [], .mv (.v 1)⟩,
  ⟨some 10, none, none, .objs [], .call (.c (.fn (.func 53) [] [])) [(.v 9)]⟩,
  ⟨some 6, none, none, .objs [], .mv (.v 10)⟩])) <|
  .seq (.seq (.ops ([
  ⟨some 11, none, none, .objs [], .mv (.v 5)⟩])) <|
  .cond (.v 11) (.seq (.seq (.ops ([
    ⟨some 12, none, none, .objs [], .mv (.v 6)⟩])) <|
    .cond (.v 12) (.seq (.ops ([
      ⟨some 4, none, none, .objs [], .mv (.c (.sc (.int .i64 0)))⟩])) <|
      .ret) (.nop)) <|
    .seq (.ops ([
    ⟨some 4, none, none, .objs [], .mv (.c (.sc (.int .i64 (-1))))⟩])) <|
    .ret) (.nop)) <|
  .seq (.seq (.ops ([
  ⟨some 13, none, none, .objs [], .mv (.v 6)⟩])) <|
  .cond (.v 13) (.seq (.ops ([
    ⟨some 4, none, none, .objs [], .mv (.c (.sc (.int .i64 1)))⟩])) <|
    .ret) (.nop)) <|
  .seq (.seq (.ops ([
  ⟨some 14, none, none, .objs [], .mv (.v 0)⟩] ++ mkL [0, 1, 14] ([
  ⟨some 15, none, none, .objs [], .mv (.v 1)⟩,
  ⟨some 16, none, none, .objs [], .bin .lss false (.v 14) (.v 15)⟩]))) <|
  .cond (.v 16) (.seq (.ops ([
    ⟨some 4, none, none, .objs [], .mv (.c (.sc (.int .i64 (-1))))⟩])) <|
    .ret) (.nop)) <|
  .seq (.seq (.ops ([
  ⟨some 17, none, none, .objs [], .mv (.v 0)⟩,
  ⟨some 18, none, none, .objs [], .mv (.v 1)⟩,
  ⟨some 19, none, none, .objs [], .bin .gtr false (.v 17) (.v 18)⟩])) <|
  .cond (.v 19) (.seq (.ops ([
    ⟨some 4, none, none, .objs [], .mv (.c (.sc (.int .i64 1)))⟩])) <|
    .ret) (.nop)) <|
  .seq (.ops ([
  ⟨some 4, none, none, .objs [], .mv (.c (.sc (.int .i64 0)))⟩])) <|
  .ret

theorem il49_eq : cFn Try.prog pol 49 = some ⟨20, il49c, [(4, none)]⟩ := by kernel_rfl

/-- isochron/elect.offers -/
noncomputable def il50c : C :=
  .seq (.ops ([
  ⟨some 3, none, none, .objs [], .bx false (.v 0)⟩,
  ⟨some 4, none, none, .objs [], .bx false (.v 1)⟩,
  ⟨some 5, none, none, .objs [], .bx false (.v 2)⟩,
  ⟨some 6, none, none, .objs [], .mv (.c (.sc .nilFunc))⟩])) <|
  .seq (.ops ([
  ⟨some 7, none, none, .objs [], .fn 54 [] [(.v 3), (.v 5), (.v 4)]⟩,
  ⟨some 6, none, none, .objs [], .mv (.v 7)⟩])) <|
  .ret

theorem il50_eq : cFn Try.prog pol 50 = some ⟨8, il50c, [(6, none)]⟩ := by kernel_rfl

/-- isochron/elect.better[isochron/elect.vector] -/
noncomputable def il51c : C :=
  .seq (.ops ([
  ⟨some 3, none, none, .objs [], .bx false (.v 0)⟩,
  ⟨some 4, none, none, .objs [], .bx false (.v 1)⟩,
  ⟨some 6, none, none, .objs [], .nw 9 (.agg [(.sc (.int .i64 0)), (.sc (.int .i64 0)), (.sc (.int .i64 0)), (.sc (.int .i64 0)), (.sc (.int .i64 0)), (.sc (.int .i64 0)), (.sc (.int .i64 0)), (.sc (.int .i64 0)), (.sc (.int .i64 0))])⟩])) <|
  .seq (.seq (.ops ([
  ⟨some 7, none, none, .objs [], .mv (.v 2)⟩,
  ⟨some 8, none, none, .objs [], .ld true 9 (.v 4)⟩,
  ⟨some 9, none, none, .objs [], .ld true 9 (.v 3)⟩,
  ⟨some 10, none, none, .objs [], .call (.v 7) [(.v 8), (.v 9)]⟩,
  ⟨some 11, none, none, .objs [], .bin .lss false (.v 10) (.c (.sc (.int .i64 0)))⟩])) <|
  .cond (.v 11) (.seq (.ops ([
    ⟨some 12, none, none, .objs [], .ld true 9 (.v 4)⟩,
    ⟨none, none, none, .objs [], .st 9 (.v 6) (.v 12)⟩])) <|
    .ret) (.nop)) <|
  .seq (.ops ([
  ⟨some 13, none, none, .objs [], .ld true 9 (.v 3)⟩,
  ⟨none, none, none, .objs [], .st 9 (.v 6) (.v 13)⟩])) <|
  .ret

theorem il51_eq : cFn Try.prog pol 51 = some ⟨14, il51c, [(6, some (true, 9))]⟩ := by kernel_rfl

noncomputable def il52l0b : C :=
  .seq (.ops ([
  ⟨some 16, none, none, .objs [], .bin .lss false (.v 15) (.c (.sc (.int .i64 2)))⟩])) <|
  .seq (.cond (.v 16) (.nop) (.exit 2)) <|
  .seq (.block 3 (.seq (.ops ([
    ⟨some 17, none, none, .objs [], .mv (.v 15)⟩,
    ⟨some 6, none, none, .objs [], .mv (.v 17)⟩])) <|
    .seq (.opsD [] ([
    ⟨some 18, none, none, .objs [], .mv (.v 6)⟩,
    ⟨some 19, none, none, .objs [], .iaA 2 1 (.v 5) (.v 18)⟩,
    ⟨some 20, none, none, .objs [(.v 19)], .ld false 1 (.v 19)⟩,
    ⟨some 21, none, none, .objs [(.v 2)], .ld false 1 (.v 2)⟩,
    ⟨some 22, none, none, .objs [], .bin .eql false (.v 20) (.v 21)⟩,
    ⟨some 23, none, none, .objs [], .mv (.v 22)⟩,
    ⟨some 24, some (23, true), none, .objs [], .mv (.v 0)⟩,
    ⟨some 25, some (23, true), none, .objs [], .mv (.v 4)⟩,
    ⟨some 26, some (23, true), none, .objs [], .mv (.v 6)⟩,
    ⟨some 27, some (23, true), none, .objs [], .bin .sub false (.c (.sc (.int .i64 1))) (.v 26)⟩,
    ⟨some 28, some (23, true), none, .objs [], .iaA 2 1 (.v 5) (.v 27)⟩] ++ mkL [0, 2, 4, 5, 8, 9, 10, 15, 23, 24, 25, 28] ([
    ⟨some 29, some (23, true), none, .objs [(.v 28)], .ld false 1 (.v 28)⟩,
    ⟨some 30, some (23, true), none, .cal (.v 24) [(.v 25), (.v 29)], .call (.v 24) [(.v 25), (.v 29)]⟩,
    ⟨some 31, some (23, true), none, .objs [], .nt (.v 30)⟩,
    ⟨some 32, none, none, .objs [], .pk (.v 23) (.v 31) (.c (.sc (.bool false)))⟩]))) <|
    .cond (.v 32) (.ret) (.nop))) <|
  .ops ([
  ⟨some 33, none, none, .objs [], .bin .add false (.v 15) (.c (.sc (.int .i64 1)))⟩,
  ⟨some 15, none, none, .objs [], .mv (.v 33)⟩])
noncomputable def il52l0 : C := il52l0b
theorem il52l0_go {P : Program} {pol : Pol} {K : Oracle} {I : Inl} {n : Nat} {f : FuncId} {R : Xit → FEnv → Heap → Prop} {e : FEnv} {h : Heap} : wc P pol K I n f il52l0 R e h = wc P pol K I n f il52l0b R e h := (fun x => x) rfl

noncomputable def il52l1b : C :=
  .seq (.ops ([
  ⟨some 11, none, none, .objs [], .bin .lss false (.v 10) (.v 9)⟩])) <|
  .seq (.cond (.v 11) (.nop) (.exit 0)) <|
  .seq (.block 1 (.seq (.ops ([
    ⟨some 12, none, none, .objs [], .mv (.v 10)⟩,
    ⟨some 13, none, none, .objs [], .iaS 2 (.v 8) (.v 10)⟩,
    ⟨some 14, none, none, .objs [], .ld true 2 (.v 13)⟩,
    ⟨some 5, none, none, .objs [], .nw 2 (.agg [(.sc (.int .i64 0)), (.sc (.int .i64 0))])⟩,
    ⟨some 4, none, none, .objs [], .mv (.v 12)⟩,
    ⟨none, none, none, .objs [], .st 2 (.v 5) (.v 14)⟩])) <|
    .seq (.ops ([
    ⟨some 15, none, none, .objs [], .mv (.c (.sc (.int .i64 0)))⟩])) <|
    .block 2 (.loop (some [0, 2, 4, 5, 8, 9, 10, 15]) il52l0))) <|
  .ops ([
  ⟨some 34, none, none, .objs [], .bin .add false (.v 10) (.c (.sc (.int .i64 1)))⟩,
  ⟨some 10, none, none, .objs [], .mv (.v 34)⟩])
noncomputable def il52l1 : C := il52l1b
theorem il52l1_go {P : Program} {pol : Pol} {K : Oracle} {I : Inl} {n : Nat} {f : FuncId} {R : Xit → FEnv → Heap → Prop} {e : FEnv} {h : Heap} : wc P pol K I n f il52l1 R e h = wc P pol K I n f il52l1b R e h := (fun x => x) rfl

/-- isochron/elect.neighbours$1 -/
noncomputable def il52c : C :=
  .seq (.ops ([
  ⟨some 7, none, none, .objs [], .fa 1 (.v 1)⟩,
  ⟨some 8, none, none, .objs [], .ld false 1 (.v 7)⟩,
  ⟨some 9, none, none, .objs [], .lenS (.v 8)⟩,
  ⟨some 10, none, none, .objs [], .mv (.c (.sc (.int .i64 0)))⟩])) <|
  .block 0 (.loop (some [0, 2, 8, 9, 10]) il52l1)

theorem il52_eq : cFn Try.prog pol 52 = some ⟨35, il52c, []⟩ := by kernel_rfl

/-- cmp.isNaN[int] -/
noncomputable def il53c : C :=
  .seq (.ops ([
  ⟨some 2, none, none, .objs [], .mv (.c (.sc (.bool false)))⟩])) <|
  .seq (.ops ([
  ⟨some 3, none, none, .objs [], .mv (.v 0)⟩,
  ⟨some 4, none, none, .objs [], .mv (.v 0)⟩,
  ⟨some 5, none, none, .objs [], .bin .neq false (.v 3) (.v 4)⟩,
  ⟨some 2, none, none, .objs [], .mv (.v 5)⟩])) <|
  .ret

theorem il53_eq : cFn Try.prog pol 53 = some ⟨6, il53c, [(2, none)]⟩ := by kernel_rfl

/-- isochron/elect.offers$1 -/
noncomputable def il54c : C :=
  .seq (.ops ([
  ⟨some 4, none, none, .objs [], .bx false (.v 0)⟩])) <|
  .seq (.ops ([
  ⟨some 8, none, none, .objs [], .ld true 2 (.v 1)⟩,
  ⟨some 9, none, none, .objs [], .ld false 1 (.v 2)⟩,
  ⟨some 10, none, none, .objs [], .call (.c (.fn (.func 45) [] [])) [(.v 8), (.v 9)]⟩])) <|
  .block 0 (.rangeF 33 (some [3, 4]) (.v 10) [11, 12] (rfOf Try.prog 54 0).1 (rfOf Try.prog 54 0).2)

theorem il54_eq : cFn Try.prog pol 54 = some ⟨33, il54c, []⟩ := by kernel_rfl


end Go.Proofs.Ytboknhdkadcaeaa
