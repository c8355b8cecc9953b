/- Functions of the program, worked out ahead (printed by a program; each is checked against the program by the kernel). -/
import Derived.Test.YtkamfflnfnjbeaaILBase
set_option linter.unusedSimpArgs false
namespace Go.Proofs.Ytkamfflnfnjbeaa
open Go Go.Abs
set_option maxRecDepth 100000
set_option linter.unusedVariables false

theorem eqT31 {a0 b0 : Int} {a1 b1 : Int} {a2 b2 : Int} {a3 b3 : Int} {a4 b4 : Int} : aEq Try.prog 31 (.t (.agg [.sc (.int .i64 a0), .sc (.int .i64 a1), .sc (.int .i64 a2), .sc (.int .i64 a3), .sc (.int .i64 a4)])) (.t (.agg [.sc (.int .i64 b0), .sc (.int .i64 b1), .sc (.int .i64 b2), .sc (.int .i64 b3), .sc (.int .i64 b4)])) = some (decide (a0 = b0 ∧ a1 = b1 ∧ a2 = b2 ∧ a3 = b3 ∧ a4 = b4)) :=
  (show aEq Try.prog 31 (.t (.agg [.sc (.int .i64 a0), .sc (.int .i64 a1), .sc (.int .i64 a2), .sc (.int .i64 a3), .sc (.int .i64 a4)])) (.t (.agg [.sc (.int .i64 b0), .sc (.int .i64 b1), .sc (.int .i64 b2), .sc (.int .i64 b3), .sc (.int .i64 b4)])) = some ((a0 == b0) && ((a1 == b1) && ((a2 == b2) && ((a3 == b3) && ((a4 == b4) && true))))) by kernel_rfl).trans (by congr 1; rw [Bool.eq_iff_iff]; simp [and_assoc])

theorem eqT46 : isSliceT Try.prog 46 = true := by kernel_rfl

theorem eqT50 {a0 b0 : Int} {a1 b1 : Int} : aEq Try.prog 50 (.t (.agg [.sc (.int .i64 a0), .sc (.int .i64 a1)])) (.t (.agg [.sc (.int .i64 b0), .sc (.int .i64 b1)])) = some (decide (a0 = b0 ∧ a1 = b1)) :=
  (show aEq Try.prog 50 (.t (.agg [.sc (.int .i64 a0), .sc (.int .i64 a1)])) (.t (.agg [.sc (.int .i64 b0), .sc (.int .i64 b1)])) = some ((a0 == b0) && ((a1 == b1) && true)) by kernel_rfl).trans (by congr 1; rw [Bool.eq_iff_iff]; simp [and_assoc])

noncomputable def il5l0b : C :=
  .seq (.ops ([
  ⟨some 29, none, none, .objs [], .bin .lss false (.v 28) (.v 27)⟩])) <|
  .seq (.cond (.v 29) (.nop) (.exit 0)) <|
  .seq (.block 1 (.seq (.ops ([
    ⟨some 30, none, none, .objs [], .iaS 2 (.v 26) (.v 28)⟩,
    ⟨some 31, none, none, .objs [], .ld true 2 (.v 30)⟩,
    ⟨some 8, none, none, .objs [], .nw 2 (.agg [(.sc (.int .i64 0)), (.sc (.int .i64 0))])⟩,
    ⟨none, none, none, .objs [], .st 2 (.v 8) (.v 31)⟩])) <|
    .ops ([
    ⟨some 32, none, none, .objs [], .mv (.v 6)⟩,
    ⟨some 33, none, none, .objs [], .fa 0 (.v 8)⟩,
    ⟨some 34, none, none, .objs [], .ld false 1 (.v 33)⟩,
    ⟨some 35, none, none, .objs [], .fa 1 (.v 8)⟩,
    ⟨some 36, none, none, .objs [], .ld false 1 (.v 35)⟩,
    ⟨none, none, none, .objs [], .raw (opOf Try.prog 5 8 5)⟩]))) <|
  .ops ([
  ⟨some 37, none, none, .objs [], .bin .add false (.v 28) (.c (.sc (.int .i64 1)))⟩,
  ⟨some 28, none, none, .objs [], .mv (.v 37)⟩])
noncomputable def il5l0 : C := il5l0b
theorem il5l0_go {P : Program} {pol : Pol} {K : Oracle} {I : Inl} {n : Nat} {f : FuncId} {R : Xit → FEnv → Heap → Prop} {e : FEnv} {h : Heap} : wc P pol K I n f il5l0 R e h = wc P pol K I n f il5l0b R e h := (fun x => x) rfl

noncomputable def il5l1b : C :=
  .seq (.ops ([
  ⟨some 45, none, none, .objs [], .bin .lss false (.v 44) (.v 43)⟩])) <|
  .seq (.cond (.v 45) (.nop) (.exit 2)) <|
  .seq (.block 3 (.seq (.ops ([
    ⟨some 46, none, none, .objs [], .iaS 1 (.v 42) (.v 44)⟩,
    ⟨some 47, none, none, .objs [], .ld false 1 (.v 46)⟩,
    ⟨some 10, none, none, .objs [], .mv (.v 47)⟩])) <|
    .seq (.ops ([
    ⟨some 48, none, none, .objs [], .mv (.v 10)⟩,
    ⟨some 49, none, none, .objs [], .bin .rem false (.v 48) (.c (.sc (.int .u8 20)))⟩,
    ⟨some 50, none, none, .objs [], .cv .i64 (.v 49)⟩,
    ⟨some 51, none, none, .objs [], .bin .mul false (.v 50) (.c (.sc (.int .i64 100)))⟩,
    ⟨some 52, none, none, .objs [], .bin .add false (.c (.sc (.int .i64 1))) (.v 51)⟩,
    ⟨some 11, none, none, .objs [], .mv (.v 52)⟩])) <|
    .seq (.ops ([
    ⟨some 54, none, none, .objs [], .mv (.v 5)⟩,
    ⟨some 55, none, none, .objs [], .mv (.v 11)⟩,
    ⟨some 56, none, none, .objs [], .call (.c (.fn (.func 24) [] [])) [(.v 54), (.v 55)]⟩,
    ⟨some 53, none, none, .objs [], .mv (.v 56)⟩] ++ mkL [5, 6, 11, 42, 43, 44, 53] ([
    ⟨some 57, none, none, .objs [], .ex (.v 53) 0⟩,
    ⟨some 58, none, none, .objs [], .ex (.v 53) 1⟩,
    ⟨some 59, none, none, .objs [], .ex (.v 53) 2⟩,
    ⟨some 12, none, none, .objs [], .mv (.v 57)⟩,
    ⟨some 13, none, none, .objs [], .mv (.v 58)⟩,
    ⟨some 14, none, none, .objs [], .mv (.v 59)⟩]))) <|
    .seq (.seq (.ops ([
    ⟨some 61, none, none, .objs [], .mv (.v 6)⟩,
    ⟨some 62, none, none, .objs [], .mv (.v 11)⟩,
    ⟨some 63, none, none, .objs [], .raw (opOf Try.prog 5 15 2)⟩,
    ⟨some 60, none, none, .objs [], .mv (.v 63)⟩,
    ⟨some 64, none, none, .objs [], .ex (.v 60) 0⟩,
    ⟨some 65, none, none, .objs [], .ex (.v 60) 1⟩,
    ⟨some 15, none, none, .objs [], .mv (.v 64)⟩,
    ⟨some 16, none, none, .objs [], .mv (.v 65)⟩])) <| mkC [5, 6, 11, 12, 13, 14, 16, 42, 43, 44] <|
    .seq (.ops ([
    ⟨some 66, none, none, .objs [], .mv (.v 16)⟩,
    ⟨some 67, none, none, .objs [], .nt (.v 66)⟩,
    ⟨some 68, none, none, .objs [], .mv (.v 67)⟩,
    ⟨some 69, some (68, true), none, .objs [], .mv (.v 6)⟩,
    ⟨some 70, some (68, true), none, .objs [], .raw (opOf Try.prog 5 16 4)⟩,
    ⟨some 71, some (68, true), none, .objs [], .bin .eql false (.v 70) (.c (.sc (.int .i64 12)))⟩,
    ⟨some 72, none, none, .objs [], .pk (.v 68) (.v 71) (.c (.sc (.bool false)))⟩])) <|
    .cond (.v 72) (.seq (.seq (.ops ([
      ⟨some 73, none, none, .objs [], .mv (.v 14)⟩,
      ⟨some 74, none, none, .objs [], .bin .neq false (.v 73) (.c (.sc (.int .i64 7)))⟩])) <|
      .cond (.v 74) (.seq (.ops ([
        ⟨some 4, none, none, .objs [], .mv (.c (.sc (.bool false)))⟩])) <|
        .ret) (.nop)) <|
      .exit 3) (.nop)) <|
    .seq (.seq (.ops ([
    ⟨some 75, none, none, .objs [], .mv (.v 14)⟩,
    ⟨some 76, none, none, .objs [], .bin .neq false (.v 75) (.c (.sc (.int .i64 0)))⟩,
    ⟨some 77, none, none, .objs [], .mv (.v 76)⟩,
    ⟨some 78, some (77, false), none, .objs [], .mv (.v 13)⟩] ++ mkL [6, 11, 12, 13, 42, 43, 44, 77, 78] ([
    ⟨some 79, some (77, false), none, .objs [], .mv (.v 6)⟩,
    ⟨some 80, some (77, false), none, .objs [], .mv (.v 11)⟩,
    ⟨some 81, some (77, false), none, .objs [], .raw (opOf Try.prog 5 19 6)⟩,
    ⟨some 82, some (77, false), none, .objs [], .bin .neq false (.v 78) (.v 81)⟩,
    ⟨some 83, none, none, .objs [], .pk (.v 77) (.c (.sc (.bool true))) (.v 82)⟩,
    ⟨some 84, none, none, .objs [], .mv (.v 83)⟩,
    ⟨some 85, some (84, false), none, .objs [], .mv (.v 12)⟩,
    ⟨some 86, some (84, false), none, .objs [], .call (.c (.fn (.func 25) [] [])) [(.v 85)]⟩,
    ⟨some 87, some (84, false), none, .objs [], .bin .neq false (.v 86) (.c (.sc (.int .i64 0)))⟩,
    ⟨some 88, none, none, .objs [], .pk (.v 84) (.c (.sc (.bool true))) (.v 87)⟩]))) <|
    .cond (.v 88) (.seq (.ops ([
      ⟨some 4, none, none, .objs [], .mv (.c (.sc (.bool false)))⟩])) <|
      .ret) (.nop)) <|
    .seq (.ops ([
    ⟨some 89, none, none, .objs [], .mv (.v 12)⟩,
    ⟨some 5, none, none, .objs [], .mv (.v 89)⟩])) <|
    .ops ([
    ⟨some 90, none, none, .objs [], .mv (.v 6)⟩] ++ mkL [5, 6, 11, 13, 42, 43, 44, 90] ([
    ⟨some 91, none, none, .objs [], .mv (.v 11)⟩,
    ⟨some 92, none, none, .objs [], .mv (.v 13)⟩,
    ⟨some 93, none, none, .objs [], .bin .add false (.v 92) (.c (.sc (.int .i64 1)))⟩,
    ⟨some 94, none, none, .objs [], .bin .rem false (.v 93) (.c (.sc (.int .i64 65536)))⟩,
    ⟨none, none, none, .objs [], .raw (opOf Try.prog 5 22 5)⟩])))) <|
  .ops ([
  ⟨some 95, none, none, .objs [], .bin .add false (.v 44) (.c (.sc (.int .i64 1)))⟩,
  ⟨some 44, none, none, .objs [], .mv (.v 95)⟩])
noncomputable def il5l1 : C := il5l1b
theorem il5l1_go {P : Program} {pol : Pol} {K : Oracle} {I : Inl} {n : Nat} {f : FuncId} {R : Xit → FEnv → Heap → Prop} {e : FEnv} {h : Heap} : wc P pol K I n f il5l1 R e h = wc P pol K I n f il5l1b R e h := (fun x => x) rfl

noncomputable def il5l2b : C :=
  .seq (.ops ([
  ⟨some 104, none, none, .objs [], .bin .lss false (.v 103) (.v 102)⟩])) <|
  .seq (.cond (.v 104) (.nop) (.exit 4)) <|
  .seq (.block 5 (.seq (.ops ([
    ⟨some 105, none, none, .objs [], .iaS 2 (.v 101) (.v 103)⟩,
    ⟨some 106, none, none, .objs [], .ld true 2 (.v 105)⟩,
    ⟨some 18, none, none, .objs [], .nw 2 (.agg [(.sc (.int .i64 0)), (.sc (.int .i64 0))])⟩,
    ⟨none, none, none, .objs [], .st 2 (.v 18) (.v 106)⟩])) <|
    .seq (.ops ([
    ⟨some 108, none, none, .objs [], .mv (.v 6)⟩,
    ⟨some 109, none, none, .objs [], .fa 0 (.v 18)⟩,
    ⟨some 110, none, none, .objs [], .ld false 1 (.v 109)⟩,
    ⟨some 111, none, none, .objs [], .raw (opOf Try.prog 5 29 3)⟩,
    ⟨some 107, none, none, .objs [], .mv (.v 111)⟩,
    ⟨some 112, none, none, .objs [], .ex (.v 107) 0⟩,
    ⟨some 113, none, none, .objs [], .ex (.v 107) 1⟩,
    ⟨some 19, none, none, .objs [], .mv (.v 112)⟩,
    ⟨some 20, none, none, .objs [], .mv (.v 113)⟩])) <| mkC [6, 18, 19, 20, 101, 102, 103] <|
    .seq (.ops ([
    ⟨some 114, none, none, .objs [], .mv (.v 20)⟩,
    ⟨some 115, none, none, .objs [], .nt (.v 114)⟩,
    ⟨some 116, none, none, .objs [], .mv (.v 115)⟩,
    ⟨some 117, some (116, false), none, .objs [], .mv (.v 19)⟩,
    ⟨some 118, some (116, false), none, .objs [], .fa 1 (.v 18)⟩,
    ⟨some 119, some (116, false), none, .objs [], .ld false 1 (.v 118)⟩,
    ⟨some 120, some (116, false), none, .objs [], .bin .neq false (.v 117) (.v 119)⟩,
    ⟨some 121, none, none, .objs [], .pk (.v 116) (.c (.sc (.bool true))) (.v 120)⟩])) <|
    .cond (.v 121) (.seq (.ops ([
      ⟨some 4, none, none, .objs [], .mv (.c (.sc (.bool false)))⟩])) <|
      .ret) (.nop))) <|
  .ops ([
  ⟨some 122, none, none, .objs [], .bin .add false (.v 103) (.c (.sc (.int .i64 1)))⟩,
  ⟨some 103, none, none, .objs [], .mv (.v 122)⟩])
noncomputable def il5l2 : C := il5l2b
theorem il5l2_go {P : Program} {pol : Pol} {K : Oracle} {I : Inl} {n : Nat} {f : FuncId} {R : Xit → FEnv → Heap → Prop} {e : FEnv} {h : Heap} : wc P pol K I n f il5l2 R e h = wc P pol K I n f il5l2b R e h := (fun x => x) rfl

noncomputable def il5c : C :=
  .seq (.ops ([
  ⟨some 4, none, none, .objs [], .mv (.c (.sc (.bool false)))⟩])) <|
  .seq (.seq (.ops ([
  ⟨some 21, none, none, .objs [], .call (.c (.fn (.func 15) [] [])) []⟩,
  ⟨some 22, none, none, .objs [], .nt (.v 21)⟩])) <|
  .cond (.v 22) (.seq (.ops ([
    ⟨some 4, none, none, .objs [], .mv (.c (.sc (.bool false)))⟩])) <|
    .ret) (.nop)) <|
  .seq (.ops ([
  ⟨some 23, none, none, .objs [], .mv (.v 0)⟩,
  ⟨some 24, none, none, .objs [], .call (.c (.fn (.func 23) [] [])) [(.v 23)]⟩,
  ⟨some 5, none, none, .objs [], .mv (.v 24)⟩])) <|
  .seq (.ops ([
  ⟨some 25, none, none, .objs [], .raw (opOf Try.prog 5 4 0)⟩,
  ⟨some 6, none, none, .objs [], .mv (.v 25)⟩])) <|
  .seq (.seq (.ops ([
  ⟨some 26, none, none, .objs [], .mv (.v 5)⟩,
  ⟨some 27, none, none, .objs [], .lenS (.v 26)⟩,
  ⟨some 28, none, none, .objs [], .mv (.c (.sc (.int .i64 0)))⟩])) <|
  .block 0 (.loop (some [1, 5, 6, 26, 27, 28]) il5l0)) <|
  .seq (.seq (.ops ([
  ⟨some 38, none, none, .objs [], .mv (.v 1)⟩,
  ⟨some 39, none, none, .objs [], .mv (.v 1)⟩,
  ⟨some 40, none, none, .objs [], .lenS (.v 39)⟩,
  ⟨some 41, none, none, .objs [], .mnx false (.v 40) (.c (.sc (.int .i64 60)))⟩,
  ⟨some 42, none, none, .objs [], .sl 1 (.v 38) none (some (.v 41)) none⟩,
  ⟨some 43, none, none, .objs [], .lenS (.v 42)⟩,
  ⟨some 44, none, none, .objs [], .mv (.c (.sc (.int .i64 0)))⟩])) <|
  .block 2 (.loop (some [5, 6, 42, 43, 44]) il5l1)) <|
  .seq (.seq (.ops ([
  ⟨some 96, none, none, .objs [], .mv (.v 5)⟩,
  ⟨some 97, none, none, .objs [], .lenS (.v 96)⟩,
  ⟨some 98, none, none, .objs [], .mv (.v 6)⟩,
  ⟨some 99, none, none, .objs [], .raw (opOf Try.prog 5 24 3)⟩,
  ⟨some 100, none, none, .objs [], .bin .neq false (.v 97) (.v 99)⟩])) <|
  .cond (.v 100) (.seq (.ops ([
    ⟨some 4, none, none, .objs [], .mv (.c (.sc (.bool false)))⟩])) <|
    .ret) (.nop)) <|
  .seq (.seq (.ops ([
  ⟨some 101, none, none, .objs [], .mv (.v 5)⟩,
  ⟨some 102, none, none, .objs [], .lenS (.v 101)⟩,
  ⟨some 103, none, none, .objs [], .mv (.c (.sc (.int .i64 0)))⟩])) <|
  .block 4 (.loop (some [6, 101, 102, 103]) il5l2)) <|
  .seq (.ops ([
  ⟨some 4, none, none, .objs [], .mv (.c (.sc (.bool true)))⟩])) <|
  .ret

theorem il5_eq : cFn Try.prog pol 5 = some ⟨123, il5c, [(4, none)]⟩ := by kernel_rfl
theorem raw5_4_0 {e : FEnv} {h : Heap} : iStep Try.prog pol 5 e h (.raw (opOf Try.prog 5 4 0)) = some (.val (.mp h.length) (h ++ [.map []])) := raw_makeMap (t := 48) (by kernel_rfl)
theorem raw5_8_5 {e : FEnv} {h : Heap} : iStep Try.prog pol 5 e h (.raw (opOf Try.prog 5 8 5)) = hOf (upV Try.prog 48 h (Src.get e (.v 32)) (Src.get e (.v 34)) (Src.get e (.v 36))) := raw_update (m := (.tmp 32)) (k := (.tmp 34)) (x := (.tmp 36)) (by kernel_rfl)
theorem raw5_15_2 {e : FEnv} {h : Heap} : iStep Try.prog pol 5 e h (.raw (opOf Try.prog 5 15 2)) = vOf h (lkV Try.prog 48 true h (Src.get e (.v 61)) (Src.get e (.v 62))) := raw_lookup (x := (.tmp 61)) (ix := (.tmp 62)) (by kernel_rfl)
theorem raw5_16_4 {e : FEnv} {h : Heap} : iStep Try.prog pol 5 e h (.raw (opOf Try.prog 5 16 4)) = vOf h (lenMV h (Src.get e (.v 69))) := raw_lenM (x := (.tmp 69)) (t := 48) (kt := 3) (et := 3) (by kernel_rfl) (by kernel_rfl)
theorem raw5_19_6 {e : FEnv} {h : Heap} : iStep Try.prog pol 5 e h (.raw (opOf Try.prog 5 19 6)) = vOf h (lkV Try.prog 48 false h (Src.get e (.v 79)) (Src.get e (.v 80))) := raw_lookup (x := (.tmp 79)) (ix := (.tmp 80)) (by kernel_rfl)
theorem raw5_22_5 {e : FEnv} {h : Heap} : iStep Try.prog pol 5 e h (.raw (opOf Try.prog 5 22 5)) = hOf (upV Try.prog 48 h (Src.get e (.v 90)) (Src.get e (.v 91)) (Src.get e (.v 94))) := raw_update (m := (.tmp 90)) (k := (.tmp 91)) (x := (.tmp 94)) (by kernel_rfl)
theorem raw5_24_3 {e : FEnv} {h : Heap} : iStep Try.prog pol 5 e h (.raw (opOf Try.prog 5 24 3)) = vOf h (lenMV h (Src.get e (.v 98))) := raw_lenM (x := (.tmp 98)) (t := 48) (kt := 3) (et := 3) (by kernel_rfl) (by kernel_rfl)
theorem raw5_29_3 {e : FEnv} {h : Heap} : iStep Try.prog pol 5 e h (.raw (opOf Try.prog 5 29 3)) = vOf h (lkV Try.prog 48 true h (Src.get e (.v 108)) (Src.get e (.v 110))) := raw_lookup (x := (.tmp 108)) (ix := (.tmp 110)) (by kernel_rfl)

noncomputable def il16c : C :=
  .seq (.ops ([
  ⟨some 4, none, none, .objs [], .mv (.c (.sc (.int .i64 0)))⟩,
  ⟨some 5, none, none, .objs [], .mv (.c (.sc (.int .i64 0)))⟩])) <|
  .seq (.seq (.ops ([
  ⟨some 6, none, none, .objs [], .mv (.v 0)⟩,
  ⟨some 7, none, none, .objs [], .call (.c (.fn (.func 41) [] [])) [(.v 6)]⟩,
  ⟨some 8, none, none, .objs [], .nt (.v 7)⟩,
  ⟨some 9, none, none, .objs [], .mv (.v 8)⟩,
  ⟨some 10, some (9, false), none, .objs [], .mv (.v 1)⟩,
  ⟨some 11, some (9, false), none, .objs [], .call (.c (.fn (.func 41) [] [])) [(.v 10)]⟩,
  ⟨some 12, some (9, false), none, .objs [], .nt (.v 11)⟩,
  ⟨some 13, none, none, .objs [], .pk (.v 9) (.c (.sc (.bool true))) (.v 12)⟩])) <|
  .cond (.v 13) (.seq (.ops ([
    ⟨some 4, none, none, .objs [], .mv (.c (.sc (.int .i64 0)))⟩,
    ⟨some 5, none, none, .objs [], .mv (.c (.sc (.int .i64 2)))⟩])) <|
    .ret) (.nop)) <|
  .seq (.ops ([
  ⟨some 14, none, none, .objs [], .mv (.v 1)⟩,
  ⟨some 15, none, none, .objs [], .mv (.v 0)⟩] ++ mkL [14, 15] ([
  ⟨some 16, none, none, .objs [], .bin .sub false (.v 14) (.v 15)⟩,
  ⟨some 17, none, none, .objs [], .bin .add false (.v 16) (.c (.sc (.int .i64 32768)))⟩,
  ⟨some 18, none, none, .objs [], .call (.c (.fn (.func 42) [] [])) [(.v 17)]⟩,
  ⟨some 19, none, none, .objs [], .bin .sub false (.v 18) (.c (.sc (.int .i64 32768)))⟩,
  ⟨some 4, none, none, .objs [], .mv (.v 19)⟩,
  ⟨some 5, none, none, .objs [], .mv (.c (.sc (.int .i64 0)))⟩]))) <|
  .ret

theorem il16_eq : cFn Try.prog pol 16 = some ⟨20, il16c, [(4, none), (5, none)]⟩ := by kernel_rfl

noncomputable def il17c : C :=
  .seq (.ops ([
  ⟨some 4, none, none, .objs [], .mv (.c (.sc (.int .i64 0)))⟩,
  ⟨some 5, none, none, .objs [], .mv (.c (.sc (.int .i64 0)))⟩])) <|
  .seq (.seq (.ops ([
  ⟨some 6, none, none, .objs [], .mv (.v 0)⟩,
  ⟨some 7, none, none, .objs [], .call (.c (.fn (.func 41) [] [])) [(.v 6)]⟩,
  ⟨some 8, none, none, .objs [], .nt (.v 7)⟩])) <|
  .cond (.v 8) (.seq (.ops ([
    ⟨some 4, none, none, .objs [], .mv (.c (.sc (.int .i64 0)))⟩,
    ⟨some 5, none, none, .objs [], .mv (.c (.sc (.int .i64 2)))⟩])) <|
    .ret) (.nop)) <|
  .seq (.ops ([
  ⟨some 9, none, none, .objs [], .mv (.v 0)⟩,
  ⟨some 10, none, none, .objs [], .mv (.v 1)⟩,
  ⟨some 11, none, none, .objs [], .call (.c (.fn (.func 42) [] [])) [(.v 10)]⟩,
  ⟨some 12, none, none, .objs [], .bin .add false (.v 9) (.v 11)⟩,
  ⟨some 13, none, none, .objs [], .call (.c (.fn (.func 42) [] [])) [(.v 12)]⟩,
  ⟨some 4, none, none, .objs [], .mv (.v 13)⟩,
  ⟨some 5, none, none, .objs [], .mv (.c (.sc (.int .i64 0)))⟩])) <|
  .ret

theorem il17_eq : cFn Try.prog pol 17 = some ⟨14, il17c, [(4, none), (5, none)]⟩ := by kernel_rfl

noncomputable def il18l0b : C :=
  .seq (.seq (.ops ([
  ⟨some 6, none, none, .objs [], .mv (.v 5)⟩,
  ⟨some 7, none, none, .objs [], .bin .lss false (.v 6) (.c (.sc (.int .i64 32768)))⟩])) <|
  .cond (.v 7) (.nop) (.exit 0)) <|
  .seq (.block 1 (.seq (.ops ([
    ⟨some 10, none, none, .objs [], .mv (.v 0)⟩,
    ⟨some 11, none, none, .objs [], .mv (.v 5)⟩,
    ⟨some 12, none, none, .objs [], .call (.c (.fn (.func 19) [] [])) [(.v 10), (.v 11)]⟩,
    ⟨some 13, none, none, .objs [], .mv (.v 1)⟩,
    ⟨some 14, none, none, .objs [], .bin .eql false (.v 12) (.v 13)⟩])) <|
    .cond (.v 14) (.seq (.ops ([
      ⟨some 15, none, none, .objs [], .mv (.v 5)⟩,
      ⟨some 4, none, none, .objs [], .mv (.v 15)⟩])) <|
      .ret) (.nop))) <|
  .ops ([
  ⟨some 8, none, none, .objs [], .mv (.v 5)⟩,
  ⟨some 9, none, none, .objs [], .bin .add false (.v 8) (.c (.sc (.int .i64 1)))⟩,
  ⟨some 5, none, none, .objs [], .mv (.v 9)⟩])
noncomputable def il18l0 : C := il18l0b
theorem il18l0_go {P : Program} {pol : Pol} {K : Oracle} {I : Inl} {n : Nat} {f : FuncId} {R : Xit → FEnv → Heap → Prop} {e : FEnv} {h : Heap} : wc P pol K I n f il18l0 R e h = wc P pol K I n f il18l0b R e h := (fun x => x) rfl

noncomputable def il18c : C :=
  .seq (.ops ([
  ⟨some 4, none, none, .objs [], .mv (.c (.sc (.int .i64 0)))⟩])) <|
  .seq (.seq (.ops ([
  ⟨some 5, none, none, .objs [], .mv (.c (.sc (.int .i64 (-32768))))⟩])) <|
  .block 0 (.loop (some [0, 1, 5]) il18l0)) <|
  .seq (.ops ([
  ⟨some 4, none, none, .objs [], .mv (.c (.sc (.int .i64 0)))⟩])) <|
  .ret

theorem il18_eq : cFn Try.prog pol 18 = some ⟨16, il18c, [(4, none)]⟩ := by kernel_rfl

noncomputable def il19c : C :=
  .seq (.ops ([
  ⟨some 4, none, none, .objs [], .mv (.c (.sc (.int .i64 0)))⟩])) <|
  .seq (.ops ([
  ⟨some 6, none, none, .objs [], .mv (.v 0)⟩,
  ⟨some 7, none, none, .objs [], .mv (.v 1)⟩,
  ⟨some 8, none, none, .objs [], .bin .rem false (.v 7) (.c (.sc (.int .i64 65536)))⟩,
  ⟨some 9, none, none, .objs [], .bin .add false (.v 6) (.v 8)⟩,
  ⟨some 10, none, none, .objs [], .bin .rem false (.v 9) (.c (.sc (.int .i64 65536)))⟩,
  ⟨some 5, none, none, .objs [], .mv (.v 10)⟩])) <|
  .seq (.seq (.ops ([
  ⟨some 11, none, none, .objs [], .mv (.v 5)⟩,
  ⟨some 12, none, none, .objs [], .bin .lss false (.v 11) (.c (.sc (.int .i64 0)))⟩])) <|
  .cond (.v 12) (.ops ([
    ⟨some 13, none, none, .objs [], .mv (.v 5)⟩,
    ⟨some 14, none, none, .objs [], .bin .add false (.v 13) (.c (.sc (.int .i64 65536)))⟩,
    ⟨some 5, none, none, .objs [], .mv (.v 14)⟩])) (.nop)) <|
  .seq (.ops ([
  ⟨some 15, none, none, .objs [], .mv (.v 5)⟩,
  ⟨some 4, none, none, .objs [], .mv (.v 15)⟩])) <|
  .ret

theorem il19_eq : cFn Try.prog pol 19 = some ⟨16, il19c, [(4, none)]⟩ := by kernel_rfl

noncomputable def il20c : C :=
  .seq (.ops ([
  ⟨some 2, none, none, .objs [], .mv (.c (.sc (.bool false)))⟩])) <|
  .seq (.ops ([
  ⟨some 3, none, none, .objs [], .mv (.v 0)⟩,
  ⟨some 4, none, none, .objs [], .bin .geq false (.v 3) (.c (.sc (.int .i64 0)))⟩,
  ⟨some 5, none, none, .objs [], .mv (.v 4)⟩,
  ⟨some 6, some (5, true), none, .objs [], .mv (.v 0)⟩,
  ⟨some 7, some (5, true), none, .objs [], .bin .leq false (.v 6) (.c (.sc (.int .i64 65535)))⟩,
  ⟨some 8, none, none, .objs [], .pk (.v 5) (.v 7) (.c (.sc (.bool false)))⟩,
  ⟨some 2, none, none, .objs [], .mv (.v 8)⟩])) <|
  .ret

theorem il20_eq : cFn Try.prog pol 20 = some ⟨9, il20c, [(2, none)]⟩ := by kernel_rfl

noncomputable def il23l0b : C :=
  .seq (.seq (.ops ([
  ⟨some 6, none, none, .objs [], .mv (.v 5)⟩,
  ⟨some 7, none, none, .objs [], .mv (.v 0)⟩,
  ⟨some 8, none, none, .objs [], .lenS (.v 7)⟩,
  ⟨some 9, none, none, .objs [], .bin .lss false (.v 6) (.v 8)⟩,
  ⟨some 10, none, none, .objs [], .mv (.v 9)⟩,
  ⟨some 11, some (10, true), none, .objs [], .mv (.v 5)⟩,
  ⟨some 12, some (10, true), none, .objs [], .bin .lss false (.v 11) (.c (.sc (.int .i64 12)))⟩,
  ⟨some 13, none, none, .objs [], .pk (.v 10) (.v 12) (.c (.sc (.bool false)))⟩])) <|
  .cond (.v 13) (.nop) (.exit 0)) <|
  .seq (.block 1 (.seq (.ops ([
    ⟨some 16, none, none, .objs [], .mv (.v 4)⟩,
    ⟨some 17, none, none, .objs [], .bin .add false (.v 16) (.c (.sc (.int .i64 1)))⟩,
    ⟨some 18, none, none, .objs [], .mv (.v 0)⟩,
    ⟨some 19, none, none, .objs [], .mv (.v 5)⟩,
    ⟨some 20, none, none, .objs [], .iaS 2 (.v 18) (.v 19)⟩,
    ⟨some 21, none, none, .objs [], .iaA 2 1 (.v 20) (.c (.sc (.int .i64 0)))⟩] ++ mkL [0, 3, 5, 17, 21] ([
    ⟨some 22, none, none, .objs [], .ld false 1 (.v 21)⟩,
    ⟨some 23, none, none, .objs [], .bin .rem false (.v 22) (.c (.sc (.int .u16 300)))⟩,
    ⟨some 24, none, none, .objs [], .cv .i64 (.v 23)⟩,
    ⟨some 25, none, none, .objs [], .bin .add false (.v 17) (.v 24)⟩,
    ⟨some 4, none, none, .objs [], .mv (.v 25)⟩]))) <|
    .ops ([
    ⟨some 26, none, none, .objs [], .mv (.v 3)⟩,
    ⟨some 27, none, none, .objs [], .mv (.v 4)⟩,
    ⟨some 28, none, none, .objs [], .mv (.v 0)⟩,
    ⟨some 29, none, none, .objs [], .mv (.v 5)⟩,
    ⟨some 30, none, none, .objs [], .iaS 2 (.v 28) (.v 29)⟩,
    ⟨some 31, none, none, .objs [], .iaA 2 1 (.v 30) (.c (.sc (.int .i64 1)))⟩,
    ⟨some 32, none, none, .objs [], .ld false 1 (.v 31)⟩,
    ⟨some 33, none, none, .objs [], .cv .i64 (.v 32)⟩,
    ⟨some 34, none, none, .objs [], .bd [(.sc (.int .i64 0)), (.sc (.int .i64 0))] [(0, 1, (.v 27)), (1, 1, (.v 33))]⟩] ++ mkL [0, 4, 5, 26, 34] ([
    ⟨some 35, none, none, .objs [], .bs false 2 (.agg [(.sc (.int .i64 0)), (.sc (.int .i64 0))]) 1 [(0, (.v 34))]⟩,
    ⟨some 36, none, none, .objs [], .app 2 16 (.v 26) (.v 35)⟩,
    ⟨some 3, none, none, .objs [], .gmv 2 (.v 36)⟩])))) <|
  .ops ([
  ⟨some 14, none, none, .objs [], .mv (.v 5)⟩,
  ⟨some 15, none, none, .objs [], .bin .add false (.v 14) (.c (.sc (.int .i64 1)))⟩,
  ⟨some 5, none, none, .objs [], .mv (.v 15)⟩])
noncomputable def il23l0 : C := il23l0b
theorem il23l0_go {P : Program} {pol : Pol} {K : Oracle} {I : Inl} {n : Nat} {f : FuncId} {R : Xit → FEnv → Heap → Prop} {e : FEnv} {h : Heap} : wc P pol K I n f il23l0 R e h = wc P pol K I n f il23l0b R e h := (fun x => x) rfl

noncomputable def il23c : C :=
  .seq (.ops ([
  ⟨some 2, none, none, .objs [], .mv (.c (.sc (.slice none 0 0)))⟩])) <|
  .seq (.ops ([
  ⟨some 3, none, none, .objs [], .gmv 2 (.c (.sc (.slice none 0 0)))⟩])) <|
  .seq (.ops ([
  ⟨some 4, none, none, .objs [], .mv (.c (.sc (.int .i64 0)))⟩])) <|
  .seq (.seq (.ops ([
  ⟨some 5, none, none, .objs [], .mv (.c (.sc (.int .i64 0)))⟩])) <|
  .block 0 (.loop (some [0, 3, 4, 5]) il23l0)) <|
  .seq (.ops ([
  ⟨some 37, none, none, .objs [], .mv (.v 3)⟩,
  ⟨some 2, none, none, .objs [], .mv (.v 37)⟩])) <|
  .ret

theorem il23_eq : cFn Try.prog pol 23 = some ⟨38, il23c, [(2, none)]⟩ := by kernel_rfl

noncomputable def il24c : C :=
  .seq (.ops ([
  ⟨some 3, none, none, .objs [], .bx false (.v 1)⟩,
  ⟨some 4, none, none, .objs [], .mv (.c (.sc (.slice none 0 0)))⟩,
  ⟨some 5, none, none, .objs [], .mv (.c (.sc (.int .i64 0)))⟩,
  ⟨some 6, none, none, .objs [], .mv (.c (.sc (.int .i64 0)))⟩])) <|
  .seq (.seq (.ops ([
  ⟨some 12, none, none, .objs [], .mv (.v 0)⟩,
  ⟨some 13, none, none, .objs [], .call (.c (.fn (.func 25) [] [])) [(.v 12)]⟩,
  ⟨some 7, none, none, .objs [], .mv (.v 13)⟩])) <|
  .seq (.ops ([
  ⟨some 14, none, none, .objs [], .mv (.v 7)⟩,
  ⟨some 15, none, none, .objs [], .bin .neq false (.v 14) (.c (.sc (.int .i64 0)))⟩])) <|
  .cond (.v 15) (.seq (.ops ([
    ⟨some 16, none, none, .objs [], .mv (.v 7)⟩,
    ⟨some 4, none, none, .objs [], .mv (.c (.sc (.slice none 0 0)))⟩,
    ⟨some 5, none, none, .objs [], .mv (.c (.sc (.int .i64 0)))⟩,
    ⟨some 6, none, none, .objs [], .mv (.v 16)⟩])) <|
    .ret) (.nop)) <|
  .seq (.seq (.ops ([
  ⟨some 17, none, none, .objs [], .ld false 1 (.v 3)⟩] ++ mkL [0, 3, 17] ([
  ⟨some 18, none, none, .objs [], .call (.c (.fn (.func 43) [] [])) [(.v 17)]⟩,
  ⟨some 19, none, none, .objs [], .nt (.v 18)⟩]))) <|
  .cond (.v 19) (.seq (.ops ([
    ⟨some 4, none, none, .objs [], .mv (.c (.sc (.slice none 0 0)))⟩,
    ⟨some 5, none, none, .objs [], .mv (.c (.sc (.int .i64 0)))⟩,
    ⟨some 6, none, none, .objs [], .mv (.c (.sc (.int .i64 2)))⟩])) <|
    .ret) (.nop)) <|
  .seq (.ops ([
  ⟨some 20, none, none, .objs [], .mv (.v 0)⟩,
  ⟨some 21, none, none, .objs [], .fn 46 [] [(.v 3)]⟩,
  ⟨some 22, none, none, .objs [], .call (.c (.fn (.func 45) [] [])) [(.v 20), (.v 21)]⟩,
  ⟨some 8, none, none, .objs [], .mv (.v 22)⟩])) <|
  .seq (.opsD [] ([
  ⟨some 23, none, none, .objs [], .mv (.v 0)⟩,
  ⟨some 24, none, none, .objs [], .mv (.v 8)⟩,
  ⟨some 25, none, none, .objs [], .sl 2 (.v 23) (some (.v 24)) none none⟩,
  ⟨some 9, none, none, .objs [], .mv (.c (.sc (.int .i64 0)))⟩,
  ⟨some 10, none, none, .objs [], .mv (.v 25)⟩])) <| mkC [0, 3, 8, 9, 10] <|
  .seq (.seq (.opsD [] ([
  ⟨some 26, none, none, .objs [], .mv (.v 8)⟩,
  ⟨some 27, none, none, .objs [], .mv (.v 0)⟩,
  ⟨some 28, none, none, .objs [(.v 27)], .lenS (.v 27)⟩,
  ⟨some 29, none, none, .objs [], .bin .lss false (.v 26) (.v 28)⟩,
  ⟨some 30, none, none, .objs [], .mv (.v 29)⟩,
  ⟨some 31, some (30, true), none, .objs [], .mv (.v 0)⟩,
  ⟨some 32, some (30, true), none, .objs [], .mv (.v 8)⟩,
  ⟨some 33, some (30, true), none, .objs [], .iaS 2 (.v 31) (.v 32)⟩,
  ⟨some 34, some (30, true), none, .objs [], .fa 0 (.v 33)⟩,
  ⟨some 35, some (30, true), none, .objs [(.v 34)], .ld false 1 (.v 34)⟩,
  ⟨some 36, some (30, true), none, .objs [(.v 3)], .ld false 1 (.v 3)⟩,
  ⟨some 37, some (30, true), none, .objs [], .bin .eql false (.v 35) (.v 36)⟩,
  ⟨some 38, none, none, .objs [], .pk (.v 30) (.v 37) (.c (.sc (.bool false)))⟩])) <|
  .cond (.v 38) (.opsD [] ([
    ⟨some 39, none, none, .objs [], .mv (.v 0)⟩] ++ mkL [0, 3, 8, 39] ([
    ⟨some 40, none, none, .objs [], .mv (.v 8)⟩,
    ⟨some 41, none, none, .objs [], .iaS 2 (.v 39) (.v 40)⟩,
    ⟨some 42, none, none, .objs [], .fa 1 (.v 41)⟩,
    ⟨some 43, none, none, .objs [(.v 42)], .ld false 1 (.v 42)⟩,
    ⟨some 44, none, none, .objs [], .mv (.v 0)⟩,
    ⟨some 45, none, none, .objs [], .mv (.v 8)⟩,
    ⟨some 46, none, none, .objs [], .bin .add false (.v 45) (.c (.sc (.int .i64 1)))⟩,
    ⟨some 47, none, none, .objs [], .sl 2 (.v 44) (some (.v 46)) none none⟩,
    ⟨some 9, none, none, .objs [], .mv (.v 43)⟩,
    ⟨some 10, none, none, .objs [], .mv (.v 47)⟩]))) (.seq (.ops ([
    ⟨some 48, none, none, .objs [], .mv (.v 0)⟩] ++ mkL [0, 3, 8, 9, 10, 48] ([
    ⟨some 49, none, none, .objs [], .lenS (.v 48)⟩,
    ⟨some 50, none, none, .objs [], .bin .eql false (.v 49) (.c (.sc (.int .i64 12)))⟩]))) <|
    .cond (.v 50) (.seq (.ops ([
      ⟨some 4, none, none, .objs [], .mv (.c (.sc (.slice none 0 0)))⟩,
      ⟨some 5, none, none, .objs [], .mv (.c (.sc (.int .i64 0)))⟩,
      ⟨some 6, none, none, .objs [], .mv (.c (.sc (.int .i64 7)))⟩])) <|
      .ret) (.nop))) <|
  .seq (.opsD [(4, 7)] ([
  ⟨some 51, none, none, .objs [], .mv (.v 0)⟩,
  ⟨some 52, none, none, .objs [], .mv (.v 8)⟩,
  ⟨some 53, none, none, .objs [], .mv (.v 8)⟩,
  ⟨some 54, none, none, .objs [], .sl 2 (.v 51) none (some (.v 52)) (some (.v 53))⟩] ++ mkL [3, 9, 10, 54] ([
  ⟨some 55, none, none, .objs [(.v 3)], .ld false 1 (.v 3)⟩,
  ⟨some 56, none, none, .objs [], .mv (.v 9)⟩,
  ⟨some 57, none, none, .objs [], .bin .add false (.v 56) (.c (.sc (.int .i64 1)))⟩,
  ⟨some 58, none, none, .cal (.c (.fn (.func 42) [] [])) [(.v 57)], .call (.c (.fn (.func 42) [] [])) [(.v 57)]⟩,
  ⟨some 59, none, none, .objs [], .bd [(.sc (.int .i64 0)), (.sc (.int .i64 0))] [(0, 1, (.v 55)), (1, 1, (.v 58))]⟩,
  ⟨some 60, none, none, .objs [], .bs false 2 (.agg [(.sc (.int .i64 0)), (.sc (.int .i64 0))]) 1 [(0, (.v 59))]⟩,
  ⟨some 61, none, none, .objs [(.v 54), (.v 60)], .app 2 16 (.v 54) (.v 60)⟩,
  ⟨some 11, none, none, .objs [], .mv (.v 61)⟩]))) <|
  .seq (.ops ([
  ⟨some 62, none, none, .objs [], .mv (.v 11)⟩,
  ⟨some 63, none, none, .objs [], .mv (.v 10)⟩,
  ⟨some 64, none, none, .objs [], .app 2 16 (.v 62) (.v 63)⟩,
  ⟨some 65, none, none, .objs [], .mv (.v 9)⟩,
  ⟨some 4, none, none, .objs [], .mv (.v 64)⟩,
  ⟨some 5, none, none, .objs [], .mv (.v 65)⟩] ++ mkL [4, 5] ([
  ⟨some 6, none, none, .objs [], .mv (.c (.sc (.int .i64 0)))⟩]))) <|
  .ret

theorem il24_eq : cFn Try.prog pol 24 = some ⟨66, il24c, [(4, none), (5, none), (6, none)]⟩ := by kernel_rfl

noncomputable def il25l0b : C :=
  .seq (.ops ([
  ⟨some 12, none, none, .objs [], .bin .lss false (.v 11) (.v 10)⟩])) <|
  .seq (.cond (.v 12) (.nop) (.exit 0)) <|
  .seq (.block 1 (.seq (.ops ([
    ⟨some 13, none, none, .objs [], .iaS 2 (.v 9) (.v 11)⟩,
    ⟨some 14, none, none, .objs [], .ld true 2 (.v 13)⟩,
    ⟨some 5, none, none, .objs [], .nw 2 (.agg [(.sc (.int .i64 0)), (.sc (.int .i64 0))])⟩,
    ⟨none, none, none, .objs [], .st 2 (.v 5) (.v 14)⟩])) <|
    .seq (.seq (.ops ([
    ⟨some 15, none, none, .objs [], .fa 0 (.v 5)⟩,
    ⟨some 16, none, none, .objs [], .ld false 1 (.v 15)⟩,
    ⟨some 17, none, none, .objs [], .call (.c (.fn (.func 43) [] [])) [(.v 16)]⟩,
    ⟨some 18, none, none, .objs [], .nt (.v 17)⟩,
    ⟨some 19, none, none, .objs [], .mv (.v 18)⟩,
    ⟨some 20, some (19, false), none, .objs [], .fa 0 (.v 5)⟩,
    ⟨some 21, some (19, false), none, .objs [], .ld false 1 (.v 20)⟩,
    ⟨some 22, some (19, false), none, .objs [], .mv (.v 3)⟩,
    ⟨some 23, some (19, false), none, .objs [], .bin .leq false (.v 21) (.v 22)⟩] ++ mkL [5, 9, 10, 11, 19, 23] ([
    ⟨some 24, none, none, .objs [], .pk (.v 19) (.c (.sc (.bool true))) (.v 23)⟩,
    ⟨some 25, none, none, .objs [], .mv (.v 24)⟩,
    ⟨some 26, some (25, false), none, .objs [], .fa 1 (.v 5)⟩,
    ⟨some 27, some (25, false), none, .objs [], .ld false 1 (.v 26)⟩,
    ⟨some 28, some (25, false), none, .objs [], .call (.c (.fn (.func 41) [] [])) [(.v 27)]⟩,
    ⟨some 29, some (25, false), none, .objs [], .nt (.v 28)⟩,
    ⟨some 30, none, none, .objs [], .pk (.v 25) (.c (.sc (.bool true))) (.v 29)⟩]))) <|
    .cond (.v 30) (.seq (.ops ([
      ⟨some 2, none, none, .objs [], .mv (.c (.sc (.int .i64 490)))⟩])) <|
      .ret) (.nop)) <|
    .ops ([
    ⟨some 31, none, none, .objs [], .fa 0 (.v 5)⟩,
    ⟨some 32, none, none, .objs [], .ld false 1 (.v 31)⟩,
    ⟨some 3, none, none, .objs [], .mv (.v 32)⟩]))) <|
  .ops ([
  ⟨some 33, none, none, .objs [], .bin .add false (.v 11) (.c (.sc (.int .i64 1)))⟩,
  ⟨some 11, none, none, .objs [], .mv (.v 33)⟩])
noncomputable def il25l0 : C := il25l0b
theorem il25l0_go {P : Program} {pol : Pol} {K : Oracle} {I : Inl} {n : Nat} {f : FuncId} {R : Xit → FEnv → Heap → Prop} {e : FEnv} {h : Heap} : wc P pol K I n f il25l0 R e h = wc P pol K I n f il25l0b R e h := (fun x => x) rfl

noncomputable def il25c : C :=
  .seq (.ops ([
  ⟨some 2, none, none, .objs [], .mv (.c (.sc (.int .i64 0)))⟩])) <|
  .seq (.seq (.ops ([
  ⟨some 6, none, none, .objs [], .mv (.v 0)⟩,
  ⟨some 7, none, none, .objs [], .lenS (.v 6)⟩,
  ⟨some 8, none, none, .objs [], .bin .gtr false (.v 7) (.c (.sc (.int .i64 12)))⟩])) <|
  .cond (.v 8) (.seq (.ops ([
    ⟨some 2, none, none, .objs [], .mv (.c (.sc (.int .i64 490)))⟩])) <|
    .ret) (.nop)) <|
  .seq (.ops ([
  ⟨some 3, none, none, .objs [], .mv (.c (.sc (.int .i64 0)))⟩])) <|
  .seq (.seq (.ops ([
  ⟨some 9, none, none, .objs [], .mv (.v 0)⟩,
  ⟨some 10, none, none, .objs [], .lenS (.v 9)⟩,
  ⟨some 11, none, none, .objs [], .mv (.c (.sc (.int .i64 0)))⟩])) <|
  .block 0 (.loop (some [3, 9, 10, 11]) il25l0)) <|
  .seq (.ops ([
  ⟨some 2, none, none, .objs [], .mv (.c (.sc (.int .i64 0)))⟩])) <|
  .ret

theorem il25_eq : cFn Try.prog pol 25 = some ⟨34, il25c, [(2, none)]⟩ := by kernel_rfl

noncomputable def il41c : C :=
  .seq (.ops ([
  ⟨some 2, none, none, .objs [], .mv (.c (.sc (.bool false)))⟩])) <|
  .seq (.ops ([
  ⟨some 3, none, none, .objs [], .mv (.v 0)⟩,
  ⟨some 4, none, none, .objs [], .bin .geq false (.v 3) (.c (.sc (.int .i64 0)))⟩,
  ⟨some 5, none, none, .objs [], .mv (.v 4)⟩,
  ⟨some 6, some (5, true), none, .objs [], .mv (.v 0)⟩,
  ⟨some 7, some (5, true), none, .objs [], .bin .lss false (.v 6) (.c (.sc (.int .i64 65536)))⟩,
  ⟨some 8, none, none, .objs [], .pk (.v 5) (.v 7) (.c (.sc (.bool false)))⟩,
  ⟨some 2, none, none, .objs [], .mv (.v 8)⟩])) <|
  .ret

theorem il41_eq : cFn Try.prog pol 41 = some ⟨9, il41c, [(2, none)]⟩ := by kernel_rfl

noncomputable def il42c : C :=
  .seq (.ops ([
  ⟨some 2, none, none, .objs [], .mv (.c (.sc (.int .i64 0)))⟩])) <|
  .seq (.ops ([
  ⟨some 3, none, none, .objs [], .mv (.v 0)⟩,
  ⟨some 4, none, none, .objs [], .bin .rem false (.v 3) (.c (.sc (.int .i64 65536)))⟩,
  ⟨some 0, none, none, .objs [], .mv (.v 4)⟩])) <|
  .seq (.seq (.ops ([
  ⟨some 5, none, none, .objs [], .mv (.v 0)⟩,
  ⟨some 6, none, none, .objs [], .bin .lss false (.v 5) (.c (.sc (.int .i64 0)))⟩])) <|
  .cond (.v 6) (.ops ([
    ⟨some 7, none, none, .objs [], .mv (.v 0)⟩,
    ⟨some 8, none, none, .objs [], .bin .add false (.v 7) (.c (.sc (.int .i64 65536)))⟩,
    ⟨some 0, none, none, .objs [], .mv (.v 8)⟩])) (.nop)) <|
  .seq (.ops ([
  ⟨some 9, none, none, .objs [], .mv (.v 0)⟩,
  ⟨some 2, none, none, .objs [], .mv (.v 9)⟩])) <|
  .ret

theorem il42_eq : cFn Try.prog pol 42 = some ⟨10, il42c, [(2, none)]⟩ := by kernel_rfl

noncomputable def il43c : C :=
  .seq (.ops ([
  ⟨some 2, none, none, .objs [], .mv (.c (.sc (.bool false)))⟩])) <|
  .seq (.ops ([
  ⟨some 3, none, none, .objs [], .mv (.v 0)⟩,
  ⟨some 4, none, none, .objs [], .bin .geq false (.v 3) (.c (.sc (.int .i64 1)))⟩,
  ⟨some 5, none, none, .objs [], .mv (.v 4)⟩,
  ⟨some 6, some (5, true), none, .objs [], .mv (.v 0)⟩,
  ⟨some 7, some (5, true), none, .objs [], .bin .leq false (.v 6) (.c (.sc (.int .i64 4095)))⟩,
  ⟨some 8, none, none, .objs [], .pk (.v 5) (.v 7) (.c (.sc (.bool false)))⟩,
  ⟨some 2, none, none, .objs [], .mv (.v 8)⟩])) <|
  .ret

theorem il43_eq : cFn Try.prog pol 43 = some ⟨9, il43c, [(2, none)]⟩ := by kernel_rfl

noncomputable def il45l0b : C :=
  .seq (.ops ([
  ⟨some 10, none, none, .objs [], .bin .lss false (.v 9) (.v 8)⟩])) <|
  .seq (.cond (.v 10) (.nop) (.exit 0)) <|
  .seq (.block 1 (.seq (.ops ([
    ⟨some 11, none, none, .objs [], .mv (.v 9)⟩,
    ⟨some 12, none, none, .objs [], .iaS 2 (.v 7) (.v 9)⟩,
    ⟨some 13, none, none, .objs [], .ld true 2 (.v 12)⟩,
    ⟨some 6, none, none, .objs [], .nw 2 (.agg [(.sc (.int .i64 0)), (.sc (.int .i64 0))])⟩,
    ⟨some 5, none, none, .objs [], .mv (.v 11)⟩,
    ⟨none, none, none, .objs [], .st 2 (.v 6) (.v 13)⟩])) <|
    .seq (.ops ([
    ⟨some 14, none, none, .objs [], .mv (.v 1)⟩,
    ⟨some 15, none, none, .objs [], .ld true 2 (.v 6)⟩,
    ⟨some 16, none, none, .objs [], .call (.v 14) [(.v 15)]⟩])) <|
    .cond (.v 16) (.seq (.ops ([
      ⟨some 17, none, none, .objs [], .mv (.v 5)⟩,
      ⟨some 4, none, none, .objs [], .mv (.v 17)⟩])) <|
      .ret) (.nop))) <|
  .ops ([
  ⟨some 18, none, none, .objs [], .bin .add false (.v 9) (.c (.sc (.int .i64 1)))⟩,
  ⟨some 9, none, none, .objs [], .mv (.v 18)⟩])
noncomputable def il45l0 : C := il45l0b
theorem il45l0_go {P : Program} {pol : Pol} {K : Oracle} {I : Inl} {n : Nat} {f : FuncId} {R : Xit → FEnv → Heap → Prop} {e : FEnv} {h : Heap} : wc P pol K I n f il45l0 R e h = wc P pol K I n f il45l0b R e h := (fun x => x) rfl

noncomputable def il45c : C :=
  .seq (.ops ([
  ⟨some 4, none, none, .objs [], .mv (.c (.sc (.int .i64 0)))⟩])) <|
  .seq (.seq (.ops ([
  ⟨some 7, none, none, .objs [], .mv (.v 0)⟩,
  ⟨some 8, none, none, .objs [], .lenS (.v 7)⟩,
  ⟨some 9, none, none, .objs [], .mv (.c (.sc (.int .i64 0)))⟩])) <|
  .block 0 (.loop (some [0, 1, 7, 8, 9]) il45l0)) <|
  .seq (.ops ([
  ⟨some 19, none, none, .objs [], .mv (.v 0)⟩,
  ⟨some 20, none, none, .objs [], .lenS (.v 19)⟩,
  ⟨some 4, none, none, .objs [], .mv (.v 20)⟩])) <|
  .ret

theorem il45_eq : cFn Try.prog pol 45 = some ⟨21, il45c, [(4, none)]⟩ := by kernel_rfl

noncomputable def il46c : C :=
  .seq (.ops ([
  ⟨some 2, none, none, .objs [], .bx false (.v 0)⟩,
  ⟨some 3, none, none, .objs [], .mv (.c (.sc (.bool false)))⟩])) <|
  .seq (.ops ([
  ⟨some 4, none, none, .objs [], .fa 0 (.v 2)⟩,
  ⟨some 5, none, none, .objs [], .ld false 1 (.v 4)⟩,
  ⟨some 6, none, none, .objs [], .ld false 1 (.v 1)⟩,
  ⟨some 7, none, none, .objs [], .bin .geq false (.v 5) (.v 6)⟩,
  ⟨some 3, none, none, .objs [], .mv (.v 7)⟩])) <|
  .ret

theorem il46_eq : cFn Try.prog pol 46 = some ⟨8, il46c, [(3, none)]⟩ := by kernel_rfl

attribute [go_sem] eqT31
attribute [go_sem] eqT46
attribute [go_sem] eqT50
attribute [go_sem] raw5_4_0
attribute [go_sem] raw5_8_5
attribute [go_sem] raw5_15_2
attribute [go_sem] raw5_16_4
attribute [go_sem] raw5_19_6
attribute [go_sem] raw5_22_5
attribute [go_sem] raw5_24_3
attribute [go_sem] raw5_29_3
end Go.Proofs.Ytkamfflnfnjbeaa
