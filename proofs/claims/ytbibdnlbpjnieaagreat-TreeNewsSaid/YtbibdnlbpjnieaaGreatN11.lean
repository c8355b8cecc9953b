/- Part 11 of the proof of TreeNews. -/
import Derived.Test.YtbibdnlbpjnieaaGreatN10
set_option linter.all false
set_option maxRecDepth 100000
set_option maxHeartbeats 4000000
namespace Go.Proofs.YtbibdnlbpjnieaaGreat
open Go Go.Abs
theorem eqT62 {a0 b0:Int} {a1 b1:Int}:aEq Tryz.prog 62 (.t (.agg [.sc (.int .i64 a0),.sc (.int .i64 a1)])) (.t (.agg [.sc (.int .i64 b0),.sc (.int .i64 b1)])) = some (decide (a0 = b0 ∧ a1 = b1)) :=
 (show aEq Tryz.prog 62 (.t (.agg [.sc (.int .i64 a0),.sc (.int .i64 a1)])) (.t (.agg [.sc (.int .i64 b0),.sc (.int .i64 b1)])) = some ((a0 == b0) && ((a1 == b1) && true)) by kernel_rfl).trans (by congr 1; rw [Bool.eq_iff_iff]; simp [and_assoc])
theorem eqT89 {a0 b0:Bool} {a1 b1:Int} {a2 b2:Int} {a3 b3:Int} {a4 b4:Int} {a5 b5:Int} {a6 b6:Int} {a7 b7:Int}:aEq Tryz.prog 89 (.t (.agg [.sc (.bool a0),.sc (.int .i64 a1),.sc (.int .i64 a2),.sc (.int .i64 a3),.sc (.int .i64 a4),.sc (.int .i64 a5),.sc (.int .i64 a6),.sc (.int .i64 a7)])) (.t (.agg [.sc (.bool b0),.sc (.int .i64 b1),.sc (.int .i64 b2),.sc (.int .i64 b3),.sc (.int .i64 b4),.sc (.int .i64 b5),.sc (.int .i64 b6),.sc (.int .i64 b7)])) = some (decide (a0 = b0 ∧ a1 = b1 ∧ a2 = b2 ∧ a3 = b3 ∧ a4 = b4 ∧ a5 = b5 ∧ a6 = b6 ∧ a7 = b7)) :=
 (show aEq Tryz.prog 89 (.t (.agg [.sc (.bool a0),.sc (.int .i64 a1),.sc (.int .i64 a2),.sc (.int .i64 a3),.sc (.int .i64 a4),.sc (.int .i64 a5),.sc (.int .i64 a6),.sc (.int .i64 a7)])) (.t (.agg [.sc (.bool b0),.sc (.int .i64 b1),.sc (.int .i64 b2),.sc (.int .i64 b3),.sc (.int .i64 b4),.sc (.int .i64 b5),.sc (.int .i64 b6),.sc (.int .i64 b7)])) = some ((a0 == b0) && (((((a1 == b1) && ((a2 == b2) && true)) && ((a3 == b3) && (((a4 == b4) && ((a5 == b5) && true)) && ((a6 == b6) && true)))) && ((a7 == b7) && true)) && true)) by kernel_rfl).trans (by congr 1; rw [Bool.eq_iff_iff]; simp [and_assoc])
theorem eqT26:isSliceT Tryz.prog 26 = true:=by kernel_rfl
theorem eqT22:isSliceT Tryz.prog 22 = true:=by kernel_rfl
theorem eqT23:isSliceT Tryz.prog 23 = true:=by kernel_rfl
theorem eqT63:isSliceT Tryz.prog 63 = true:=by kernel_rfl
theorem eqT70 {a0 b0:Int} {a1 b1:Int} {a2 b2:Int} {a3 b3:Int}:aEq Tryz.prog 70 (.t (.agg [.sc (.int .i64 a0),.sc (.int .i64 a1),.sc (.int .i64 a2),.sc (.int .i64 a3)])) (.t (.agg [.sc (.int .i64 b0),.sc (.int .i64 b1),.sc (.int .i64 b2),.sc (.int .i64 b3)])) = some (decide (a0 = b0 ∧ a1 = b1 ∧ a2 = b2 ∧ a3 = b3)) :=
 (show aEq Tryz.prog 70 (.t (.agg [.sc (.int .i64 a0),.sc (.int .i64 a1),.sc (.int .i64 a2),.sc (.int .i64 a3)])) (.t (.agg [.sc (.int .i64 b0),.sc (.int .i64 b1),.sc (.int .i64 b2),.sc (.int .i64 b3)])) = some ((a0 == b0) && ((a1 == b1) && ((a2 == b2) && ((a3 == b3) && true)))) by kernel_rfl).trans (by congr 1; rw [Bool.eq_iff_iff]; simp [and_assoc])
theorem eqT85 {a0 b0:Int} {a1 b1:Int} {a2 b2:Int} {a3 b3:Int} {a4 b4:Int} {a5 b5:Int}:aEq Tryz.prog 85 (.t (.agg [.sc (.int .i64 a0),.sc (.int .i64 a1),.sc (.int .i64 a2),.sc (.int .i64 a3),.sc (.int .i64 a4),.sc (.int .i64 a5)])) (.t (.agg [.sc (.int .i64 b0),.sc (.int .i64 b1),.sc (.int .i64 b2),.sc (.int .i64 b3),.sc (.int .i64 b4),.sc (.int .i64 b5)])) = some (decide (a0 = b0 ∧ a1 = b1 ∧ a2 = b2 ∧ a3 = b3 ∧ a4 = b4 ∧ a5 = b5)) :=
 (show aEq Tryz.prog 85 (.t (.agg [.sc (.int .i64 a0),.sc (.int .i64 a1),.sc (.int .i64 a2),.sc (.int .i64 a3),.sc (.int .i64 a4),.sc (.int .i64 a5)])) (.t (.agg [.sc (.int .i64 b0),.sc (.int .i64 b1),.sc (.int .i64 b2),.sc (.int .i64 b3),.sc (.int .i64 b4),.sc (.int .i64 b5)])) = some (((a0 == b0) && ((a1 == b1) && true)) && ((a2 == b2) && (((a3 == b3) && ((a4 == b4) && true)) && ((a5 == b5) && true)))) by kernel_rfl).trans (by congr 1; rw [Bool.eq_iff_iff]; simp [and_assoc])
noncomputable def il3c:C :=
 .seq (.ops ([
 yO 2 (.bx true (.v 0)),
 yO 4 (.mv (yB false))])) <|
 .seq (.seq (.ops ([
 yO 7 (.call (yC 6) []),
 yO 8 (.nt (.v 7))])) <|
 .cond (.v 8) (.seq (.ops ([
  yO 4 (.mv (yB false))])) <|
  .ret) (.nop)) <|
 .seq (.ops ([
 yD 9 3 2,
 yO 10 (.call (yC 7) [(.v 9)]),
 yN (.st 3 (.v 2) (.v 10))])) <|
 .seq (.ops ([
 yO 11 (.bs false 1 yZ 0 []),
 yM 12 1,
 yM 13 1,
 yO 14 (.lenS (.v 13)),
 yO 15 (.mnx false (.v 14) (yI 20)),
 yO 16 (.sl 1 (.v 12) none (some (.v 15)) none)] ++ mkL [2,11,16] ([
 yO 17 (.app 1 8 (.v 11) (.v 16)),
 yM 1 17]))) <|
 .seq (.ops ([
 yD 19 3 2,
 yM 20 1,
 ⟨some 21,none,some [(yC 8),(.v 19),(.v 20)],.objs [],.call (yC 8) [(.v 19),(.v 20)]⟩,
 yM 18 21,
 yO 22 (.ex (.v 18) 0),
 yO 23 (.ex (.v 18) 1),
 yO 5 (.nw 6 (.agg [yZ,yS,yS,yS,yS,yS])),
 yN (.st 6 (.v 5) (.v 22)),
 yM 6 23])) <|
 .seq (.seq (.ops ([
 yD 24 3 2,
 yO 25 (.call (yC 9) [(.v 24)]),
 yO 26 (.nt (.v 25))])) <| mkC [1,2,5,6,26] <|
 .cond (.v 26) (.seq (.ops ([
  yD 27 6 5,
  yM 28 6,
  yO 29 (.call (yC 10) [(.v 27),(.v 28),(yI 260)]),
  yM 4 29])) <|
  .ret) (.nop)) <|
 .seq (.seq (.ops ([
 yD 30 3 2,
 yM 31 1,
 yO 32 (.call (yC 11) [(.v 30),(.v 31)]),
 yO 33 (.nt (.v 32))])) <|
 .cond (.v 33) (.seq (.ops ([
  yD 34 6 5,
  yM 35 6,
  yO 36 (.call (yC 10) [(.v 34),(.v 35),(yI 2)]),
  yM 4 36])) <|
  .ret) (.nop)) <|
 .seq (.opsD [(0,4)] ([
 yP 37 5 (.ld true 6 (.v 5)),
 yM 38 6] ++ mkL [1,2,5,37,38] ([
 yP 39 2 (.ld true 3 (.v 2)),
 yM 40 1,
 yQ 41 (yC 13) [(.v 39),(.v 40)],
 yQ 42 (yC 12) [(.v 37),(.v 38),(.v 41)],
 yM 43 42,
 ⟨some 44,some (43,true),none,.objs [(.v 5)],.ld true 6 (.v 5)⟩,
 ⟨some 45,some (43,true),none,.cal (yC 14) [(.v 44)],.call (yC 14) [(.v 44)]⟩,
 yG 46 43 true (.bin .eql false (.v 45) (yI 0)),
 yO 47 (.pk (.v 43) (.v 46) (yB false)),
 yM 4 47]))) <|
 .ret
theorem il3_eq:cFn Tryz.prog pol 3 = some ⟨48,il3c,[(4,none)]⟩:=by kernel_rfl
noncomputable def il6c:C :=
 .seq (.ops ([
 yO 0 (.mv (yB false))])) <|
 .seq (.ops ([
 yO 22 (.call (yC 27) []),
 yO 23 (.bs false 1 yZ 5 [(0,(yI 0)),(1,(yI 0)),(2,(yI 0)),(3,(yI 0)),(4,(yI 0))]),
 yO 24 (.call (yC 8) [(.v 22),(.v 23)]),
 yM 21 24,
 yO 25 (.ex (.v 21) 0),
 yO 26 (.ex (.v 21) 1),
 yO 1 (.nw 6 (.agg [yZ,yS,yS,yS,yS,yS])),
 yN (.st 6 (.v 1) (.v 25)),
 yM 2 26])) <|
 .seq (.ops ([
 yD 28 6 1,
 yO 29 (.call (yC 17) [(.v 28)]),
 yM 27 29,
 yO 30 (.ex (.v 27) 0)] ++ mkL [1,2,27,30] ([
 yO 31 (.ex (.v 27) 1),
 yM 3 30,
 yM 4 31]))) <|
 .seq (.ops ([
 yD 33 6 1,
 yO 34 (.call (yC 16) [(.v 33)]),
 yM 32 34,
 yO 35 (.ex (.v 32) 0),
 yO 36 (.ex (.v 32) 1),
 yM 5 35,
 yM 6 36])) <|
 .seq (.ops ([
 yD 38 6 1,
 yO 39 (.call (yC 22) [(.v 38)]),
 yM 37 39,
 yO 40 (.ex (.v 37) 0)] ++ mkL [1,2,3,4,5,6,37,40] ([
 yO 41 (.ex (.v 37) 1),
 yO 7 (.nw 6 (.agg [yZ,yS,yS,yS,yS,yS])),
 yN (.st 6 (.v 7) (.v 40)),
 yM 8 41]))) <|
 .seq (.ops ([
 yD 43 6 7,
 yO 44 (.call (yC 22) [(.v 43)]),
 yM 42 44,
 yO 45 (.ex (.v 42) 0),
 yO 46 (.ex (.v 42) 1),
 yO 9 (.nw 6 (.agg [yZ,yS,yS,yS,yS,yS])),
 yN (.st 6 (.v 9) (.v 45)),
 yM 10 46])) <|
 .seq (.ops ([
 yD 48 6 9,
 yO 49 (.call (yC 16) [(.v 48)])] ++ mkL [1,2,3,4,5,6,8,9,10,49] ([
 yM 47 49,
 yO 50 (.ex (.v 47) 0),
 yO 51 (.ex (.v 47) 1),
 yM 11 50,
 yM 12 51]))) <|
 .seq (.ops ([
 yD 53 6 9,
 yO 54 (.call (yC 23) [(.v 53),(yI 1)]),
 yM 52 54,
 yO 55 (.ex (.v 52) 0),
 yO 56 (.ex (.v 52) 1),
 yO 13 (.nw 6 (.agg [yZ,yS,yS,yS,yS,yS])),
 yN (.st 6 (.v 13) (.v 55)),
 yM 14 56])) <|
 .seq (.ops ([
 yD 58 6 13] ++ mkL [1,2,3,4,5,6,8,10,11,12,14,58] ([
 yO 59 (.call (yC 17) [(.v 58)]),
 yM 57 59,
 yO 60 (.ex (.v 57) 0),
 yO 61 (.ex (.v 57) 1),
 yM 15 60,
 yM 16 61]))) <|
 .seq (.ops ([
 yD 63 6 1,
 yO 64 (.call (yC 23) [(.v 63),(yI 5)]),
 yM 62 64,
 yO 65 (.ex (.v 62) 0),
 yO 66 (.ex (.v 62) 1),
 yO 17 (.nw 6 (.agg [yZ,yS,yS,yS,yS,yS])),
 yN (.st 6 (.v 17) (.v 65)),
 yM 18 66])) <| mkC [2,3,4,5,6,8,10,11,12,14,15,16,18] <|
 .seq (.ops ([
 yM 67 2,
 yO 68 (.bin .eql false (.v 67) (yI 0)),
 yM 69 68,
 yG 70 69 true (.mv (.v 4)),
 yG 71 69 true (.bin .eql false (.v 70) (yI 0)),
 yO 72 (.pk (.v 69) (.v 71) (yB false)),
 yM 73 72,
 yG 74 73 true (.mv (.v 6)),
 yG 75 73 true (.bin .eql false (.v 74) (yI 0)),
 yO 76 (.pk (.v 73) (.v 75) (yB false)),
 yM 77 76,
 yG 78 77 true (.mv (.v 8)),
 yG 79 77 true (.bin .eql false (.v 78) (yI 0)),
 yO 80 (.pk (.v 77) (.v 79) (yB false))] ++ mkL [3,5,10,11,12,14,15,16,18,80] ([
 yM 81 80,
 yG 82 81 true (.mv (.v 10)),
 yG 83 81 true (.bin .eql false (.v 82) (yI 0)),
 yO 84 (.pk (.v 81) (.v 83) (yB false)),
 yM 85 84,
 yG 86 85 true (.mv (.v 12)),
 yG 87 85 true (.bin .eql false (.v 86) (yI 0)),
 yO 88 (.pk (.v 85) (.v 87) (yB false)),
 yM 89 88,
 yG 90 89 true (.mv (.v 14)),
 yG 91 89 true (.bin .eql false (.v 90) (yI 0)),
 yO 92 (.pk (.v 89) (.v 91) (yB false)),
 yM 93 92,
 yG 94 93 true (.mv (.v 16))] ++ mkL [3,5,11,15,18,93,94] ([
 yG 95 93 true (.bin .eql false (.v 94) (yI 0)),
 yO 96 (.pk (.v 93) (.v 95) (yB false)),
 yM 19 96])))) <|
 .seq (.ops ([
 yO 97 (.bs false 1 yZ 10 [(0,(yI 2)),(1,(yI 1)),(2,(yI 2)),(3,(yI 1)),(4,(yI 2)),(5,(yI 3)),(6,(yI 0)),(7,(yI 2)),(8,(yI 0)),(9,(yI 2))]),
 yM 20 97])) <|
 .seq (.ops ([
 yM 98 19,
 yM 99 98,
 yG 100 99 true (.mv (.v 3)),
 yG 101 99 true (.mv (.v 20)),
 yG 102 99 true (.call (yC 19) [(.v 100),(.v 101)]),
 yO 103 (.pk (.v 99) (.v 102) (yB false)),
 yM 104 103,
 yG 105 104 true (.mv (.v 5)),
 yG 106 104 true (.bs false 1 yZ 10 [(0,(yI 2)),(1,(yI 2)),(2,(yI 2)),(3,(yI 2)),(4,(yI 2)),(5,(yI 2)),(6,(yI 0)),(7,(yI 2)),(8,(yI 0)),(9,(yI 2))])] ++ mkL [11,15,18,20,104,105,106] ([
 yG 107 104 true (.call (yC 19) [(.v 105),(.v 106)]),
 yO 108 (.pk (.v 104) (.v 107) (yB false)),
 yM 109 108,
 yG 110 109 true (.mv (.v 11)),
 yG 111 109 true (.mv (.v 20)),
 yG 112 109 true (.call (yC 19) [(.v 110),(.v 111)]),
 yO 113 (.pk (.v 109) (.v 112) (yB false)),
 yM 114 113,
 yG 115 114 true (.mv (.v 15)),
 yG 116 114 true (.bs false 1 yZ 10 [(0,(yI 2)),(1,(yI 1)),(2,(yI 0)),(3,(yI 0)),(4,(yI 2)),(5,(yI 1)),(6,(yI 0)),(7,(yI 2)),(8,(yI 0)),(9,(yI 2))]),
 yG 117 114 true (.call (yC 19) [(.v 115),(.v 116)]),
 yO 118 (.pk (.v 114) (.v 117) (yB false)),
 yM 119 118,
 yG 120 119 true (.mv (.v 18))] ++ mkL [119,120] ([
 yG 121 119 true (.bin .eql false (.v 120) (yI 2)),
 yO 122 (.pk (.v 119) (.v 121) (yB false)),
 yM 0 122])))) <|
 .ret
theorem il6_eq:cFn Tryz.prog pol 6 = some ⟨123,il6c,[(0,none)]⟩:=by kernel_rfl
noncomputable def il7c:C :=
 .seq (.ops ([
 yO 1 (.bx true (.v 0)),
 yO 2 (.nw 3 (.agg [yZ,yS,yS]))])) <|
 .seq (.opsD [(11,15)] ([
 yF 3 1 1,
 yP 4 3 (.ld false 1 (.v 3)),
 yF 5 1 1,
 yP 6 5 (.ld false 1 (.v 5)),
 yP 7 6 (.lenS (.v 6)),
 yO 8 (.mnx false (.v 7) (yI 20)),
 yO 9 (.sl 1 (.v 4) none (some (.v 8)) none),
 yF 10 2 1,
 yP 11 10 (.ld false 1 (.v 10)),
 yF 12 2 1,
 yP 13 12 (.ld false 1 (.v 12)),
 yP 14 13 (.lenS (.v 13))] ++ mkL [1,2,9,11,14] ([
 yO 15 (.mnx false (.v 14) (yI 30)),
 yO 16 (.sl 4 (.v 11) none (some (.v 15)) none),
 yF 17 1 1,
 yT 17 (.st 1 (.v 17) (.v 9)),
 yF 18 2 1,
 yT 18 (.st 1 (.v 18) (.v 16))]))) <|
 .seq (.ops ([
 yD 19 3 1,
 yN (.st 3 (.v 2) (.v 19))])) <|
 .ret
theorem il7_eq:cFn Tryz.prog pol 7 = some ⟨20,il7c,[(2,some (true,3))]⟩:=by kernel_rfl
noncomputable def il8r0a:C :=
 .ops ([
 yM 8 37])
noncomputable def il8r0b:C :=
 .block 1 (.seq (.ops ([
  yD 40 6 7,
  yM 41 8,
  yO 42 (.call (yC 32) [(.v 40),(.v 41)]),
  yM 39 42,
  yO 43 (.ex (.v 39) 0),
  yO 44 (.ex (.v 39) 1),
  yM 9 43,
  yM 10 44])) <|
  .seq (.ops ([
  yD 46 6 7,
  yM 47 8,
  yO 48 (.call (yC 34) [(.v 46),(.v 47)]),
  yM 49 9,
  yM 50 10,
  ⟨some 51,none,some [(yC 33),(.v 48),(.v 49),(.v 50)],.objs [],.call (yC 33) [(.v 48),(.v 49),(.v 50)]⟩] ++ mkL [4,5,7,8,51] ([
  yM 45 51,
  yO 52 (.ex (.v 45) 0),
  yO 53 (.ex (.v 45) 1),
  yO 11 (.nw 5 (.agg [yZ,yZ,yS,yS,yS])),
  yN (.st 5 (.v 11) (.v 52)),
  yM 12 53]))) <|
  .seq (.seq (.ops ([
  yM 54 12,
  yO 55 (.bin .neq false (.v 54) (yI 0))])) <|
  .cond (.v 55) (.seq (.ops ([
   yO 56 (.bd [yZ,yS,yS,yS,yS,yS] []),
   yM 57 12,
   yN (.st 6 (.v 4) (.v 56)),
   yN (.st 1 (.v 5) (.v 57))])) <|
   .ret) (.nop)) <|
  .ops ([
  yF 58 0 7,
  yF 59 5 58] ++ mkL [8,11,59] ([
  yL 60 1 59,
  yM 61 8,
  yD 62 5 11,
  yO 63 (.iaS 5 (.v 60) (.v 61)),
  yN (.st 5 (.v 63) (.v 62))])))
theorem il8r0a_eq:cCode Tryz.prog pol 8 66 0 (rfOf Tryz.prog 8 0).1 = il8r0a:=by kernel_rfl
theorem il8r0b_eq:cCode Tryz.prog pol 8 66 0 (rfOf Tryz.prog 8 0).2 = il8r0b:=by kernel_rfl
noncomputable def il8c:C :=
 .seq (.ops ([
 yO 2 (.bx false (.v 0)),
 yO 4 (.nw 6 (.agg [yZ,yS,yS,yS,yS,yS])),
 yO 5 (.nw 1 yZ)])) <|
 .seq (.seq (.ops ([
 yD 13 3 2,
 yO 14 (.call (yC 28) [(.v 13)]),
 yM 6 14])) <|
 .seq (.ops ([
 yM 15 6,
 yO 16 (.bin .neq false (.v 15) (yI 0))])) <|
 .cond (.v 16) (.seq (.ops ([
  yO 17 (.bd [yZ,yS,yS,yS,yS,yS] []),
  yM 18 6,
  yN (.st 6 (.v 4) (.v 17)),
  yN (.st 1 (.v 5) (.v 18))])) <|
  .ret) (.nop)) <|
 .seq (.seq (.ops ([
 yD 19 3 2,
 yM 20 1] ++ mkL [1,2,4,5,19,20] ([
 yO 21 (.call (yC 29) [(.v 19),(.v 20)]),
 yO 22 (.nt (.v 21))]))) <|
 .cond (.v 22) (.seq (.ops ([
  yO 23 (.bd [yZ,yS,yS,yS,yS,yS] []),
  yN (.st 6 (.v 4) (.v 23)),
  yN (.st 1 (.v 5) (yI 2))])) <|
  .ret) (.nop)) <|
 .seq (.opsD [(0,5),(5,7),(0,8),(3,8),(4,8),(0,11),(3,11),(4,11),(7,11),(10,11)] ([
 yP 24 2 (.ld true 3 (.v 2)),
 yM 25 1,
 yF 26 2 2,
 yP 27 26 (.ld false 1 (.v 26)),
 yP 28 27 (.lenS (.v 27)),
 yO 29 (.raw (opOf Tryz.prog 8 6 5)),
 yF 30 0 2,
 yP 31 30 (.ld false 1 (.v 30)),
 yO 32 (.raw (opOf Tryz.prog 8 6 8))] ++ mkL [4,5,24,25,29,32] ([
 yO 33 (.bd [yZ,yS,yS,yS,yS,yS] [(0,3,(.v 24)),(3,1,(.v 25)),(4,1,(.v 29)),(5,1,(.v 32))]),
 yQ 34 (yC 30) [(.v 33)],
 yO 7 (.nw 6 (.agg [yZ,yS,yS,yS,yS,yS])),
 yT 7 (.st 6 (.v 7) (.v 34))]))) <|
 .seq (.seq (.ops ([
 yD 35 6 7,
 yO 36 (.call (yC 31) [(.v 35)])])) <|
 .block 0 (.rangeF 66 (some [4,5,7]) (.v 36) [37,38] (rfOf Tryz.prog 8 0).1 (rfOf Tryz.prog 8 0).2)) <|
 .seq (.ops ([
 yF 64 0 7,
 yD 65 6 64,
 yN (.st 6 (.v 4) (.v 65)),
 yN (.st 1 (.v 5) (yI 0))])) <|
 .ret
theorem il8_eq:cFn Tryz.prog pol 8 = some ⟨66,il8c,[(4,some (true,6)),(5,some (false,1))]⟩:=by kernel_rfl
theorem raw8_6_5 {e:FEnv} {h:Heap}:iStep Tryz.prog pol 8 e h (.raw (opOf Tryz.prog 8 6 5)) = mkSlT 1 1 (.sc (.bool false)) h (asNat (Src.get e (.v 28))) (asNat (Src.get e (.v 28))):=raw_makeSliceT (t:=22) (l:=(.tmp 28)) (c:=(.tmp 28)) (elem:=4) (by kernel_rfl) (by kernel_rfl) (by kernel_rfl) (by kernel_rfl) (by kernel_rfl) (by kernel_rfl) (by kernel_rfl)
theorem raw8_6_8 {e:FEnv} {h:Heap}:iStep Tryz.prog pol 8 e h (.raw (opOf Tryz.prog 8 6 8)) = mkSlT 5 88 (.agg [(.sc (.int .i64 0)),(.sc (.int .i64 0)),(.sc (.slice none 0 0)),(.sc (.slice none 0 0)),(.sc (.slice none 0 0))]) h (asNat (Src.get e (.v 31))) (asNat (Src.get e (.v 31))):=raw_makeSliceT (t:=29) (l:=(.tmp 31)) (c:=(.tmp 31)) (elem:=65) (by kernel_rfl) (by kernel_rfl) (by kernel_rfl) (by kernel_rfl) (by kernel_rfl) (by kernel_rfl) (by kernel_rfl)
noncomputable def il9l0b:C :=
 .seq (.seq (.ops ([
 yM 50 6,
 yM 51 4,
 yO 52 (.bin .lss false (.v 50) (.v 51))])) <|
 .cond (.v 52) (.nop) (.exit 2)) <|
 .seq (.block 3 (.seq (.opsD [] ([
  yF 55 2 1,
  yP 56 55 (.ld false 1 (.v 55)),
  yM 57 6,
  yO 58 (.iaS 4 (.v 56) (.v 57)),
  yP 59 58 (.ld true 4 (.v 58)),
  yF 60 0 5,
  yP 61 60 (.ld false 1 (.v 60)),
  yF 62 1 5,
  yP 63 62 (.ld false 1 (.v 62)),
  yQ 64 (yC 36) [(.v 59),(.v 61),(.v 63)]])) <|
  .cond (.v 64) (.seq (.ops ([
   yO 2 (.mv (yB false))])) <|
   .ret) (.nop))) <| mkC [1,3,4,5,6] <|
 .ops ([
 yM 53 6,
 yO 54 (.bin .add false (.v 53) (yI 1)),
 yM 6 54])
noncomputable def il9l0:C:=il9l0b
theorem il9l0_go {P pol K I n f R e h}:wc P pol K I n f il9l0 R e h = wc P pol K I n f il9l0b R e h:=(fun x=>x) rfl
noncomputable def il9l1b:C :=
 .seq (.seq (.ops ([
 yM 34 4,
 yF 35 2 1,
 yL 36 1 35,
 yO 37 (.lenS (.v 36)),
 yO 38 (.bin .lss false (.v 34) (.v 37))])) <|
 .cond (.v 38) (.nop) (.exit 0)) <|
 .seq (.block 1 (.seq (.ops ([
  yF 41 2 1,
  yL 42 1 41,
  yM 43 4,
  yO 44 (.iaS 4 (.v 42) (.v 43)),
  yD 45 4 44,
  yO 5 (.nw 4 (.agg [yZ,yZ,yZ,yZ])),
  yN (.st 4 (.v 5) (.v 45))])) <|
  .seq (.seq (.ops ([
  yD 46 3 1,
  yD 47 4 5] ++ mkL [1,3,4,5,46,47] ([
  yO 48 (.call (yC 35) [(.v 46),(.v 47)]),
  yO 49 (.nt (.v 48))]))) <|
  .cond (.v 49) (.seq (.ops ([
   yO 2 (.mv (yB false))])) <|
   .ret) (.nop)) <|
  .seq (.seq (.ops ([
  yO 6 (.mv (yI 0))])) <|
  .block 2 (.loop (some [1,3,4,5,6]) il9l0)) <|
  .seq (.opsD [] ([
  yM 65 3,
  yF 66 0 5,
  yP 67 66 (.ld false 1 (.v 66)),
  yM 68 3,
  yF 69 0 5,
  yP 70 69 (.ld false 1 (.v 69)),
  yO 71 (.iaS 1 (.v 68) (.v 70)),
  yP 72 71 (.ld false 1 (.v 71)),
  yO 73 (.bin .add false (.v 72) (yI 1)),
  yO 74 (.iaS 1 (.v 65) (.v 67)),
  yT 74 (.st 1 (.v 74) (.v 73))])) <|
  .opsD [] ([
  yM 75 3,
  yF 76 1 5,
  yP 77 76 (.ld false 1 (.v 76))] ++ mkL [1,3,4,5,75,77] ([
  yM 78 3,
  yF 79 1 5,
  yP 80 79 (.ld false 1 (.v 79)),
  yO 81 (.iaS 1 (.v 78) (.v 80)),
  yP 82 81 (.ld false 1 (.v 81)),
  yO 83 (.bin .add false (.v 82) (yI 1)),
  yO 84 (.iaS 1 (.v 75) (.v 77)),
  yT 84 (.st 1 (.v 84) (.v 83))])))) <|
 .ops ([
 yM 39 4,
 yO 40 (.bin .add false (.v 39) (yI 1)),
 yM 4 40])
noncomputable def il9l1:C:=il9l1b
theorem il9l1_go {P pol K I n f R e h}:wc P pol K I n f il9l1 R e h = wc P pol K I n f il9l1b R e h:=(fun x=>x) rfl
noncomputable def il9l2b:C :=
 .seq (.seq (.ops ([
 yM 87 8,
 yF 88 0 1,
 yL 89 1 88,
 yO 90 (.bin .lss false (.v 87) (.v 89))])) <|
 .cond (.v 90) (.nop) (.exit 4)) <|
 .seq (.block 5 (.seq (.ops ([
  yM 93 7,
  yM 94 8,
  yO 95 (.iaS 1 (.v 93) (.v 94)),
  yL 96 1 95,
  yO 97 (.nt (.v 96)),
  yM 98 97,
  yG 99 98 false (.fa 1 (.v 1)),
  yG 100 98 false (.ld false 1 (.v 99)),
  yG 101 98 false (.mv (.v 8)),
  yG 102 98 false (.iaS 1 (.v 100) (.v 101))] ++ mkL [1,3,7,8,98,102] ([
  yG 103 98 false (.ld false 1 (.v 102)),
  yG 104 98 false (.mv (.v 103)),
  yG 105 104 true (.mv (.v 3)),
  yG 106 104 true (.mv (.v 8)),
  yG 107 104 true (.iaS 1 (.v 105) (.v 106)),
  yG 108 104 true (.ld false 1 (.v 107)),
  yG 109 104 true (.bin .lss false (.v 108) (yI 1)),
  yG 110 104 true (.mv (.v 109)),
  yG 111 110 false (.mv (.v 3)),
  yG 112 110 false (.mv (.v 8)),
  yG 113 110 false (.iaS 1 (.v 111) (.v 112)),
  yG 114 110 false (.ld false 1 (.v 113)),
  yG 115 110 false (.bin .gtr false (.v 114) (yI 2)),
  yG 116 104 true (.pk (.v 110) (yB true) (.v 115))] ++ mkL [1,3,7,8,98,104,116] ([
  yG 117 98 false (.pk (.v 104) (.v 116) (yB false)),
  yO 118 (.pk (.v 98) (yB true) (.v 117))])))) <|
  .cond (.v 118) (.seq (.ops ([
   yO 2 (.mv (yB false))])) <|
   .ret) (.nop))) <|
 .ops ([
 yM 91 8,
 yO 92 (.bin .add false (.v 91) (yI 1)),
 yM 8 92])
noncomputable def il9l2:C:=il9l2b
theorem il9l2_go {P pol K I n f R e h}:wc P pol K I n f il9l2 R e h = wc P pol K I n f il9l2b R e h:=(fun x=>x) rfl
noncomputable def il9c:C :=
 .seq (.ops ([
 yO 1 (.bx false (.v 0)),
 yO 2 (.mv (yB false))])) <|
 .seq (.seq (.ops ([
 yF 9 0 1,
 yL 10 1 9,
 yO 11 (.bin .lss false (.v 10) (yI 2)),
 yM 12 11,
 yG 13 12 false (.fa 0 (.v 1)),
 yG 14 12 false (.ld false 1 (.v 13)),
 yG 15 12 false (.bin .gtr false (.v 14) (yI 12)),
 yO 16 (.pk (.v 12) (yB true) (.v 15)),
 yM 17 16,
 yG 18 17 false (.fa 1 (.v 1)),
 yG 19 17 false (.ld false 1 (.v 18)),
 yG 20 17 false (.lenS (.v 19))] ++ mkL [1,17,20] ([
 yG 21 17 false (.fa 0 (.v 1)),
 yG 22 17 false (.ld false 1 (.v 21)),
 yG 23 17 false (.bin .neq false (.v 20) (.v 22)),
 yO 24 (.pk (.v 17) (yB true) (.v 23)),
 yM 25 24,
 yG 26 25 false (.fa 2 (.v 1)),
 yG 27 25 false (.ld false 1 (.v 26)),
 yG 28 25 false (.lenS (.v 27)),
 yG 29 25 false (.bin .gtr false (.v 28) (yI 24)),
 yO 30 (.pk (.v 25) (yB true) (.v 29))]))) <|
 .cond (.v 30) (.seq (.ops ([
  yO 2 (.mv (yB false))])) <|
  .ret) (.nop)) <|
 .seq (.ops ([
 yF 31 0 1,
 yL 32 1 31,
 yO 33 (.raw (opOf Tryz.prog 9 3 2))] ++ mkL [1,33] ([
 yM 3 33]))) <|
 .seq (.seq (.ops ([
 yO 4 (.mv (yI 0))])) <|
 .block 0 (.loop (some [1,3,4]) il9l1)) <|
 .seq (.ops ([
 yD 85 3 1,
 yO 86 (.call (yC 37) [(.v 85),(yI 0),(.c yS)]),
 yM 7 86])) <|
 .seq (.seq (.ops ([
 yO 8 (.mv (yI 0))])) <|
 .block 4 (.loop (some [1,3,7,8]) il9l2)) <|
 .seq (.ops ([
 yO 2 (.mv (yB true))])) <|
 .ret
theorem il9_eq:cFn Tryz.prog pol 9 = some ⟨119,il9c,[(2,none)]⟩:=by kernel_rfl
theorem raw9_3_2 {e:FEnv} {h:Heap}:iStep Tryz.prog pol 9 e h (.raw (opOf Tryz.prog 9 3 2)) = mkSl 1 8 (.sc (.int .i64 0)) h (asNat (Src.get e (.v 32))) (asNat (Src.get e (.v 32))):=raw_makeSlice (t:=26) (l:=(.tmp 32)) (c:=(.tmp 32)) (elem:=3) (by kernel_rfl) (by kernel_rfl) (by kernel_rfl) (by kernel_rfl) (by kernel_rfl) (by kernel_rfl) (by kernel_rfl)
noncomputable def il10c:C :=
 .seq (.ops ([
 yO 3 (.bx false (.v 0)),
 yO 6 (.mv (yB false))])) <|
 .seq (.ops ([
 yM 7 1,
 yM 8 2,
 yO 9 (.bin .eql false (.v 7) (.v 8)),
 yM 10 9,
 yG 11 10 true (.ld true 6 (.v 3)),
 yG 12 10 true (.bd [yZ,yS,yS,yS,yS,yS] []),
 yG 13 10 true (.call (yC 38) [(.v 11),(.v 12)]),
 yO 14 (.pk (.v 10) (.v 13) (yB false)),
 yM 6 14])) <|
 .ret
theorem il10_eq:cFn Tryz.prog pol 10 = some ⟨15,il10c,[(6,none)]⟩:=by kernel_rfl
noncomputable def il11l0b:C :=
 .seq (.seq (.ops ([
 yM 11 5,
 yM 12 1,
 yO 13 (.lenS (.v 12)),
 yO 14 (.bin .lss false (.v 11) (.v 13))])) <|
 .cond (.v 14) (.nop) (.exit 0)) <|
 .seq (.block 1 (.seq (.ops ([
  yM 17 1,
  yM 18 5,
  yO 19 (.iaS 1 (.v 17) (.v 18)),
  yL 20 1 19,
  yO 21 (.bin .lss false (.v 20) (yI 0)),
  yM 22 21,
  yG 23 22 false (.mv (.v 1)),
  yG 24 22 false (.mv (.v 5)),
  yG 25 22 false (.iaS 1 (.v 23) (.v 24)),
  yG 26 22 false (.ld false 1 (.v 25))] ++ mkL [1,5,22,26] ([
  yG 27 22 false (.bin .gtr false (.v 26) (yI 15)),
  yO 28 (.pk (.v 22) (yB true) (.v 27))]))) <|
  .cond (.v 28) (.seq (.ops ([
   yO 4 (.mv (yB false))])) <|
   .ret) (.nop))) <|
 .ops ([
 yM 15 5,
 yO 16 (.bin .add false (.v 15) (yI 1)),
 yM 5 16])
noncomputable def il11l0:C:=il11l0b
theorem il11l0_go {P pol K I n f R e h}:wc P pol K I n f il11l0 R e h = wc P pol K I n f il11l0b R e h:=(fun x=>x) rfl
noncomputable def il11c:C :=
 .seq (.ops ([
 yO 2 (.bx false (.v 0)),
 yO 4 (.mv (yB false))])) <|
 .seq (.seq (.ops ([
 yM 6 1,
 yO 7 (.lenS (.v 6)),
 yF 8 0 2,
 yL 9 1 8,
 yO 10 (.bin .neq false (.v 7) (.v 9))])) <|
 .cond (.v 10) (.seq (.ops ([
  yO 4 (.mv (yB false))])) <|
  .ret) (.nop)) <|
 .seq (.seq (.ops ([
 yO 5 (.mv (yI 0))])) <|
 .block 0 (.loop (some [1,5]) il11l0)) <|
 .seq (.ops ([
 yO 4 (.mv (yB true))])) <|
 .ret
theorem il11_eq:cFn Tryz.prog pol 11 = some ⟨29,il11c,[(4,none)]⟩:=by kernel_rfl
noncomputable def il12c:C :=
 .seq (.ops ([
 yO 3 (.bx false (.v 0)),
 yO 5 (.bx false (.v 2)),
 yO 6 (.mv (yB false))])) <|
 .seq (.ops ([
 yM 7 1,
 yO 8 (.bin .eql false (.v 7) (yI 0)),
 yM 9 8,
 yG 10 9 true (.ld true 6 (.v 3)),
 yG 11 9 true (.ld true 6 (.v 5)),
 yG 12 9 true (.call (yC 38) [(.v 10),(.v 11)]),
 yO 13 (.pk (.v 9) (.v 12) (yB false)),
 yM 6 13])) <|
 .ret
theorem il12_eq:cFn Tryz.prog pol 12 = some ⟨14,il12c,[(6,none)]⟩:=by kernel_rfl
noncomputable def il13l0b:C :=
 .seq (.seq (.ops ([
 yM 14 6,
 yF 15 0 2,
 yL 16 1 15,
 yO 17 (.bin .lss false (.v 14) (.v 16))])) <|
 .cond (.v 17) (.nop) (.exit 0)) <|
 .seq (.block 1 (.opsD [(1,4),(1,5)] ([
  yF 20 5 5,
  yP 21 20 (.ld false 1 (.v 20)),
  yP 22 5 (.ld true 6 (.v 5)),
  yM 23 6,
  yQ 24 (yC 39) [(.v 22),(.v 23)],
  yO 25 (.bs false 5 (.agg [yZ,yZ,yS,yS,yS]) 1 [(0,(.v 24))]),
  ⟨some 26,none,none,.objs [(.v 21),(.v 25)],.app 5 88 (.v 21) (.v 25)⟩,
  yF 27 5 5,
  yT 27 (.st 1 (.v 27) (.v 26))]))) <|
 .ops ([
 yM 18 6] ++ mkL [2,4,5,18] ([
 yO 19 (.bin .add false (.v 18) (yI 1)),
 yM 6 19]))
noncomputable def il13l0:C:=il13l0b
theorem il13l0_go {P pol K I n f R e h}:wc P pol K I n f il13l0 R e h = wc P pol K I n f il13l0b R e h:=(fun x=>x) rfl
noncomputable def il13c:C :=
 .seq (.ops ([
 yO 2 (.bx false (.v 0)),
 yO 4 (.nw 6 (.agg [yZ,yS,yS,yS,yS,yS]))])) <|
 .seq (.opsD [(0,5),(0,7),(3,7),(4,7)] ([
 yP 7 2 (.ld true 3 (.v 2)),
 yM 8 1,
 yF 9 2 2,
 yP 10 9 (.ld false 1 (.v 9)),
 yP 11 10 (.lenS (.v 10)),
 yO 12 (.raw (opOf Tryz.prog 13 1 5)),
 yO 13 (.bd [yZ,yS,yS,yS,yS,yS] [(0,3,(.v 7)),(3,1,(.v 8)),(4,1,(.v 12))]),
 yO 5 (.raw (opOf Tryz.prog 13 1 7)),
 yT 5 (.raw (opOf Tryz.prog 13 1 8))])) <|
 .seq (.seq (.ops ([
 yO 6 (.mv (yI 0))])) <|
 .block 0 (.loop (some [2,4,5,6]) il13l0)) <|
 .seq (.ops ([
 yD 28 6 5,
 yN (.st 6 (.v 4) (.v 28))])) <|
 .ret
theorem il13_eq:cFn Tryz.prog pol 13 = some ⟨29,il13c,[(4,some (true,6))]⟩:=by kernel_rfl
theorem raw13_1_5 {e:FEnv} {h:Heap}:iStep Tryz.prog pol 13 e h (.raw (opOf Tryz.prog 13 1 5)) = mkSl 1 1 (.sc (.bool false)) h (asNat (Src.get e (.v 11))) (asNat (Src.get e (.v 11))):=raw_makeSlice (t:=22) (l:=(.tmp 11)) (c:=(.tmp 11)) (elem:=4) (by kernel_rfl) (by kernel_rfl) (by kernel_rfl) (by kernel_rfl) (by kernel_rfl) (by kernel_rfl) (by kernel_rfl)
theorem raw13_1_7 {e:FEnv} {h:Heap}:iStep Tryz.prog pol 13 e h (.raw (opOf Tryz.prog 13 1 7)) = grS [(3,1),(4,1),(5,5)] h (growAV h.length [(3,1),(4,1),(5,5)] ([(.sc (.int .i64 0)),(.sc (.slice none 0 0)),(.sc (.slice none 0 0)),(.sc (.slice none 0 0)),(.sc (.slice none 0 0)),(.sc (.slice none 0 0))].map .t)):=raw_allocS (t:=31) (by kernel_rfl) (by kernel_rfl) (by kernel_rfl) (by kernel_rfl)
theorem raw13_1_8 {e:FEnv} {h:Heap}:iStep Tryz.prog pol 13 e h (.raw (opOf Tryz.prog 13 1 8)) = hOf (iStore 6 (Src.get e (.v 5)) (keepV h (Src.get e (.v 5)) (Src.get e (.v 13))) h):=raw_storeK (t:=31) (a:=(.tmp 5)) (x:=(.tmp 13)) (by kernel_rfl) (by kernel_rfl) (by kernel_rfl)
noncomputable def il14l0b:C :=
 .seq (.ops ([
 yO 37 (.bin .lss false (.v 36) (.v 35))])) <|
 .seq (.cond (.v 37) (.nop) (.exit 0)) <|
 .seq (.block 1 (.seq (.ops ([
  yM 38 36,
  yM 3 38])) <|
  .seq (.ops ([
  yD 39 6 1,
  yO 40 (.bd [yZ,yS,yS,yS,yS,yS] [(0,6,(.v 39))]),
  yM 41 3,
  yO 42 (.call (yC 40) [(.v 40),(.v 41)]),
  yO 43 (.nt (.v 42))])) <|
  .cond (.v 43) (.seq (.ops ([
   yO 2 (.mv (yI 300))])) <|
   .ret) (.nop))) <|
 .ops ([
 yO 44 (.bin .add false (.v 36) (yI 1)),
 yM 36 44])
noncomputable def il14l0:C:=il14l0b
theorem il14l0_go {P pol K I n f R e h}:wc P pol K I n f il14l0 R e h = wc P pol K I n f il14l0b R e h:=(fun x=>x) rfl
noncomputable def il14c:C :=
 .seq (.ops ([
 yO 1 (.bx false (.v 0)),
 yO 2 (.mv (yI 0))])) <|
 .seq (.seq (.ops ([
 yF 4 0 1,
 yD 5 3 4,
 yO 6 (.call (yC 28) [(.v 5)]),
 yO 7 (.bin .neq false (.v 6) (yI 0)),
 yM 8 7,
 yG 9 8 false (.fa 0 (.v 1)),
 yG 10 8 false (.ld true 3 (.v 9)),
 yG 11 8 false (.fa 3 (.v 1)),
 yG 12 8 false (.ld false 1 (.v 11)),
 yG 13 8 false (.call (yC 29) [(.v 10),(.v 12)]),
 yG 14 8 false (.nt (.v 13)),
 yO 15 (.pk (.v 8) (yB true) (.v 14))])) <| mkC [1,15] <|
 .cond (.v 15) (.seq (.ops ([
  yO 2 (.mv (yI 300))])) <|
  .ret) (.nop)) <|
 .seq (.seq (.ops ([
 yF 16 5 1,
 yL 17 1 16,
 yO 18 (.lenS (.v 17)),
 yF 19 0 1,
 yF 20 0 19,
 yL 21 1 20,
 yO 22 (.bin .neq false (.v 18) (.v 21)),
 yM 23 22,
 yG 24 23 false (.fa 4 (.v 1)),
 yG 25 23 false (.ld false 1 (.v 24)),
 yG 26 23 false (.lenS (.v 25)),
 yG 27 23 false (.fa 0 (.v 1)),
 yG 28 23 false (.fa 2 (.v 27))] ++ mkL [1,23,26,28] ([
 yG 29 23 false (.ld false 1 (.v 28)),
 yG 30 23 false (.lenS (.v 29)),
 yG 31 23 false (.bin .neq false (.v 26) (.v 30)),
 yO 32 (.pk (.v 23) (yB true) (.v 31))]))) <|
 .cond (.v 32) (.seq (.ops ([
  yO 2 (.mv (yI 300))])) <|
  .ret) (.nop)) <|
 .seq (.seq (.ops ([
 yF 33 5 1,
 yL 34 1 33,
 yO 35 (.lenS (.v 34)),
 yO 36 (.mv (yI 0))])) <|
 .block 0 (.loop (some [1,35,36]) il14l0)) <|
 .seq (.ops ([
 yO 2 (.mv (yI 0))])) <|
 .ret
theorem il14_eq:cFn Tryz.prog pol 14 = some ⟨45,il14c,[(2,none)]⟩:=by kernel_rfl
noncomputable def il16r0a:C :=
 .seq (.ops ([
 yM 6 22])) <|
 .ops ([
 yO 7 (.nw 5 (.agg [yZ,yZ,yS,yS,yS])),
 yN (.st 5 (.v 7) (.v 23))])
noncomputable def il16r0b:C :=
 .block 1 (.seq (.ops ([
  yD 25 5 7,
  yO 26 (.call (yC 41) [(.v 25)]),
  yM 24 26,
  yO 27 (.ex (.v 24) 0),
  yO 28 (.ex (.v 24) 1),
  yM 8 27,
  yM 9 28])) <|
  .seq (.seq (.ops ([
  yM 29 9,
  yO 30 (.bin .neq false (.v 29) (yI 0))])) <|
  .cond (.v 30) (.seq (.ops ([
   yM 31 9,
   yN (.st 1 (.v 2) (.c yS)),
   yN (.st 1 (.v 3) (.v 31))])) <|
   .ret) (.nop)) <|
  .ops ([
  yL 32 1 5,
  yM 33 6] ++ mkL [8,32,33] ([
  yM 34 8,
  yO 35 (.iaS 1 (.v 32) (.v 33)),
  yN (.st 1 (.v 35) (.v 34))])))
theorem il16r0a_eq:cCode Tryz.prog pol 16 40 0 (rfOf Tryz.prog 16 0).1 = il16r0a:=by kernel_rfl
theorem il16r0b_eq:cCode Tryz.prog pol 16 40 0 (rfOf Tryz.prog 16 0).2 = il16r0b:=by kernel_rfl
noncomputable def il16c:C :=
 .seq (.ops ([
 yO 1 (.bx false (.v 0)),
 yO 2 (.nw 1 yS),
 yO 3 (.nw 1 yZ)])) <|
 .seq (.seq (.ops ([
 yD 10 6 1,
 yO 11 (.call (yC 14) [(.v 10)]),
 yM 4 11])) <|
 .seq (.ops ([
 yM 12 4,
 yO 13 (.bin .neq false (.v 12) (yI 0))])) <|
 .cond (.v 13) (.seq (.ops ([
  yM 14 4,
  yN (.st 1 (.v 2) (.c yS)),
  yN (.st 1 (.v 3) (.v 14))])) <|
  .ret) (.nop)) <|
 .seq (.ops ([
 yF 15 5 1,
 yL 16 1 15,
 yO 17 (.lenS (.v 16))] ++ mkL [1,2,3,17,17] ([
 yO 18 (.raw (opOf Tryz.prog 16 4 3)),
 yO 5 (.nw 1 yS),
 yN (.st 1 (.v 5) (.v 18))]))) <|
 .seq (.seq (.ops ([
 yD 19 6 1,
 yO 20 (.bd [yZ,yS,yS,yS,yS,yS] [(0,6,(.v 19))]),
 yO 21 (.call (yC 31) [(.v 20)])])) <|
 .block 0 (.rangeF 40 (some [2,3,5]) (.v 21) [22,23] (rfOf Tryz.prog 16 0).1 (rfOf Tryz.prog 16 0).2)) <|
 .seq (.ops ([
 yD 36 6 1,
 yO 37 (.bd [yZ,yS,yS,yS,yS,yS] [(0,6,(.v 36))]),
 ⟨some 38,none,some [(.v 5),(.v 1)],.objs [],.fn 43 [] [(.v 5),(.v 1)]⟩,
 yO 39 (.call (yC 42) [(.v 37),(.v 38)]),
 yN (.st 1 (.v 2) (.v 39)),
 yN (.st 1 (.v 3) (yI 0))])) <|
 .ret
theorem il16_eq:cFn Tryz.prog pol 16 = some ⟨40,il16c,[(2,some (false,1)),(3,some (false,1))]⟩:=by kernel_rfl
theorem raw16_4_3 {e:FEnv} {h:Heap}:iStep Tryz.prog pol 16 e h (.raw (opOf Tryz.prog 16 4 3)) = mkSl 1 24 (.sc (.slice none 0 0)) h (asNat (Src.get e (.v 17))) (asNat (Src.get e (.v 17))):=raw_makeSlice (t:=77) (l:=(.tmp 17)) (c:=(.tmp 17)) (elem:=26) (by kernel_rfl) (by kernel_rfl) (by kernel_rfl) (by kernel_rfl) (by kernel_rfl) (by kernel_rfl) (by kernel_rfl)
noncomputable def il17c:C :=
 .seq (.ops ([
 yO 1 (.bx false (.v 0)),
 yO 2 (.mv (.c yS)),
 yO 3 (.mv (yI 0))])) <|
 .seq (.seq (.ops ([
 yD 6 6 1,
 yO 7 (.call (yC 14) [(.v 6)]),
 yM 4 7])) <|
 .seq (.ops ([
 yM 8 4,
 yO 9 (.bin .neq false (.v 8) (yI 0))])) <|
 .cond (.v 9) (.seq (.ops ([
  yM 10 4,
  yO 2 (.mv (.c yS)),
  yM 3 10])) <|
  .ret) (.nop)) <|
 .seq (.ops ([
 yD 11 6 1,
 yO 12 (.bd [yZ,yS,yS,yS,yS,yS] [(0,6,(.v 11))]),
 yO 5 (.nw 6 (.agg [yZ,yS,yS,yS,yS,yS]))] ++ mkL [5,12] ([
 yN (.st 6 (.v 5) (.v 12))]))) <|
 .seq (.opsD [(0,2)] ([
 yP 13 5 (.ld true 6 (.v 5)),
 yP 14 5 (.ld true 6 (.v 5)),
 yQ 15 (yC 45) [(.v 14)],
 yQ 16 (yC 42) [(.v 13),(.v 15)],
 yM 2 16,
 yO 3 (.mv (yI 0))])) <|
 .ret
theorem il17_eq:cFn Tryz.prog pol 17 = some ⟨17,il17c,[(2,none),(3,none)]⟩:=by kernel_rfl
noncomputable def il19l0b:C :=
 .seq (.ops ([
 yO 14 (.bin .lss false (.v 13) (.v 12))])) <|
 .seq (.cond (.v 14) (.nop) (.exit 0)) <|
 .seq (.block 1 (.seq (.ops ([
  yM 15 13,
  yM 5 15])) <|
  .seq (.opsD [] ([
  yM 16 0,
  yM 17 5,
  yO 18 (.iaS 1 (.v 16) (.v 17)),
  yP 19 18 (.ld false 1 (.v 18)),
  yM 20 1,
  yM 21 5,
  yO 22 (.iaS 1 (.v 20) (.v 21)),
  yP 23 22 (.ld false 1 (.v 22)),
  yO 24 (.bin .neq false (.v 19) (.v 23))])) <|
  .cond (.v 24) (.seq (.ops ([
   yO 4 (.mv (yB false))])) <|
   .ret) (.nop))) <|
 .ops ([
 yO 25 (.bin .add false (.v 13) (yI 1))] ++ mkL [0,1,12,25] ([
 yM 13 25]))
noncomputable def il19l0:C:=il19l0b
theorem il19l0_go {P pol K I n f R e h}:wc P pol K I n f il19l0 R e h = wc P pol K I n f il19l0b R e h:=(fun x=>x) rfl
noncomputable def il19c:C :=
 .seq (.ops ([
 yO 4 (.mv (yB false))])) <|
 .seq (.seq (.ops ([
 yM 6 0,
 yO 7 (.lenS (.v 6)),
 yM 8 1,
 yO 9 (.lenS (.v 8)),
 yO 10 (.bin .neq false (.v 7) (.v 9))])) <|
 .cond (.v 10) (.seq (.ops ([
  yO 4 (.mv (yB false))])) <|
  .ret) (.nop)) <|
 .seq (.seq (.ops ([
 yM 11 0,
 yO 12 (.lenS (.v 11)),
 yO 13 (.mv (yI 0))])) <|
 .block 0 (.loop (some [0,1,12,13]) il19l0)) <|
 .seq (.ops ([
 yO 4 (.mv (yB true))])) <|
 .ret
theorem il19_eq:cFn Tryz.prog pol 19 = some ⟨26,il19c,[(4,none)]⟩:=by kernel_rfl
noncomputable def il22l0b:C :=
 .seq (.ops ([
 yO 25 (.bin .lss false (.v 24) (yI 3))])) <|
 .seq (.cond (.v 25) (.nop) (.exit 0)) <|
 .seq (.block 1 (.seq (.ops ([
  yO 26 (.ixA true 1 3 1 (.v 23) (.v 24)),
  yO 9 (.nw 1 (.agg [(.sc .nilFunc)])),
  yN (.st 1 (.v 9) (.v 26))])) <|
  .seq (.ops ([
  yF 27 0 9,
  yL 28 1 27,
  yO 29 (.call (.v 28) [(.v 6)]),
  yM 7 29])) <|
  .seq (.ops ([
  yM 30 7,
  yO 31 (.bin .neq false (.v 30) (yI 0))])) <|
  .cond (.v 31) (.exit 0) (.nop))) <|
 .ops ([
 yO 32 (.bin .add false (.v 24) (yI 1)),
 yM 24 32])
noncomputable def il22l0:C:=il22l0b
theorem il22l0_go {P pol K I n f R e h}:wc P pol K I n f il22l0 R e h = wc P pol K I n f il22l0b R e h:=(fun x=>x) rfl
noncomputable def il22c:C :=
 .seq (.ops ([
 yO 1 (.bx false (.v 0)),
 yO 2 (.nw 6 (.agg [yZ,yS,yS,yS,yS,yS])),
 yO 3 (.mv (yI 0))])) <|
 .seq (.seq (.ops ([
 yD 10 6 1,
 yO 11 (.call (yC 14) [(.v 10)]),
 yM 4 11])) <|
 .seq (.ops ([
 yM 12 4,
 yO 13 (.bin .neq false (.v 12) (yI 0))])) <|
 .cond (.v 13) (.seq (.ops ([
  yO 14 (.bd [yZ,yS,yS,yS,yS,yS] []),
  yM 15 4,
  yN (.st 6 (.v 2) (.v 14)),
  yM 3 15])) <|
  .ret) (.nop)) <|
 .seq (.ops ([
 yO 16 (.bd [(.sc .nilFunc)] [(0,1,(yC 59))]),
 yO 17 (.bd [(.sc .nilFunc)] [(0,1,(yC 60))])] ++ mkL [1,2,16,17] ([
 yO 18 (.bd [(.sc .nilFunc)] [(0,1,(yC 61))]),
 yO 19 (.bd [(.sc .nilFunc),(.sc .nilFunc),(.sc .nilFunc)] [(0,1,(.v 16)),(1,1,(.v 17)),(2,1,(.v 18))]),
 yO 5 (.nw 3 (.agg [(.sc .nilFunc),(.sc .nilFunc),(.sc .nilFunc)])),
 yN (.st 3 (.v 5) (.v 19))]))) <|
 .seq (.ops ([
 yD 20 6 1,
 yO 21 (.call (yC 30) [(.v 20)]),
 yO 22 (.bd [yZ,yS,yS,yS,yS,yS,yS] [(0,6,(.v 21))]),
 yO 6 (.nw 7 (.agg [yZ,yS,yS,yS,yS,yS,yS])),
 yN (.st 7 (.v 6) (.v 22))])) <|
 .seq (.ops ([
 yO 7 (.mv (yI 0))])) <|
 .seq (.nop) <|
 .seq (.seq (.ops ([
 yD 23 3 5,
 yO 24 (.mv (yI 0))])) <|
 .block 0 (.loop (some [2,6,7,23,24]) il22l0)) <|
 .seq (.seq (.ops ([
 yM 33 7,
 yO 34 (.bin .neq false (.v 33) (yI 0))])) <|
 .cond (.v 34) (.seq (.ops ([
  yO 35 (.bd [yZ,yS,yS,yS,yS,yS] []),
  yM 36 7,
  yN (.st 6 (.v 2) (.v 35)),
  yM 3 36])) <|
  .ret) (.nop)) <|
 .seq (.ops ([
 yF 37 0 6,
 yF 38 0 37,
 yD 39 6 38,
 yN (.st 6 (.v 2) (.v 39)),
 yO 3 (.mv (yI 0))])) <|
 .ret
theorem il22_eq:cFn Tryz.prog pol 22 = some ⟨40,il22c,[(2,some (true,6)),(3,none)]⟩:=by kernel_rfl
noncomputable def il23l0b:C :=
 .seq (.ops ([
 yO 45 (.bin .lss false (.v 44) (.v 43))])) <|
 .seq (.cond (.v 45) (.nop) (.exit 2)) <|
 .seq (.block 3 (.seq (.ops ([
  yM 46 44,
  yO 47 (.iaS 1 (.v 42) (.v 44)),
  yL 48 1 47,
  yM 10 46,
  yM 11 48])) <|
  .seq (.seq (.ops ([
  yM 49 11,
  yO 50 (.bin .quo false (.v 49) (yI 2)),
  yL 51 1 3,
  yO 52 (.bin .neq false (.v 50) (.v 51))])) <|
  .cond (.v 52) (.exit 3) (.nop)) <|
  .seq (.ops ([
  yF 54 0 7,
  yF 55 5 54,
  yL 56 1 55,
  yM 57 8] ++ mkL [3,4,5,7,8,10,42,43,44,56,57] ([
  yO 58 (.iaS 5 (.v 56) (.v 57)),
  yD 59 5 58,
  yM 60 10,
  yO 61 (.call (yC 62) [(.v 59),(.v 60)]),
  yM 53 61,
  yO 62 (.ex (.v 53) 0),
  yO 63 (.ex (.v 53) 1),
  yO 12 (.nw 5 (.agg [yZ,yZ,yS,yS,yS])),
  yN (.st 5 (.v 12) (.v 62)),
  yM 13 63]))) <|
  .seq (.seq (.ops ([
  yM 64 13,
  yO 65 (.bin .neq false (.v 64) (yI 0))])) <|
  .cond (.v 65) (.seq (.ops ([
   yO 66 (.bd [yZ,yS,yS,yS,yS,yS] []),
   yM 67 13] ++ mkL [4,5,66,67] ([
   yN (.st 6 (.v 4) (.v 66)),
   yN (.st 1 (.v 5) (.v 67))]))) <|
   .ret) (.nop)) <|
  .ops ([
  yF 68 0 7,
  yF 69 5 68] ++ mkL [3,4,5,7,8,12,42,43,44,69] ([
  yL 70 1 69,
  yM 71 8,
  yD 72 5 12,
  yO 73 (.iaS 5 (.v 70) (.v 71)),
  yN (.st 5 (.v 73) (.v 72))])))) <|
 .ops ([
 yO 74 (.bin .add false (.v 44) (yI 1)),
 yM 44 74])
noncomputable def il23l0:C:=il23l0b
theorem il23l0_go {P pol K I n f R e h}:wc P pol K I n f il23l0 R e h = wc P pol K I n f il23l0b R e h:=(fun x=>x) rfl
noncomputable def il23r0a:C :=
 .seq (.ops ([
 yM 8 39])) <|
 .ops ([
 yO 9 (.nw 5 (.agg [yZ,yZ,yS,yS,yS])),
 yN (.st 5 (.v 9) (.v 40))])
noncomputable def il23r0b:C :=
 .block 1 (.seq (.ops ([
  yF 41 2 9,
  yL 42 1 41,
  yO 43 (.lenS (.v 42)),
  yO 44 (.mv (yI 0))])) <|
  .block 2 (.loop (some [3,4,5,7,8,42,43,44]) il23l0))
theorem il23r0a_eq:cCode Tryz.prog pol 23 77 0 (rfOf Tryz.prog 23 0).1 = il23r0a:=by kernel_rfl
theorem il23r0b_eq:cCode Tryz.prog pol 23 77 0 (rfOf Tryz.prog 23 0).2 = il23r0b:=by kernel_rfl
noncomputable def il23c:C :=
 .seq (.ops ([
 yO 2 (.bx false (.v 0)),
 yO 3 (.bx false (.v 1)),
 yO 4 (.nw 6 (.agg [yZ,yS,yS,yS,yS,yS])),
 yO 5 (.nw 1 yZ)])) <|
 .seq (.seq (.ops ([
 yD 14 6 2,
 yO 15 (.call (yC 14) [(.v 14)]),
 yM 6 15])) <|
 .seq (.ops ([
 yM 16 6,
 yO 17 (.bin .neq false (.v 16) (yI 0))])) <|
 .cond (.v 17) (.seq (.ops ([
  yO 18 (.bd [yZ,yS,yS,yS,yS,yS] []),
  yM 19 6,
  yN (.st 6 (.v 4) (.v 18)),
  yN (.st 1 (.v 5) (.v 19))])) <|
  .ret) (.nop)) <|
 .seq (.seq (.ops ([
 yL 20 1 3] ++ mkL [2,3,4,5,20] ([
 yO 21 (.bin .lss false (.v 20) (yI 0)),
 yM 22 21,
 yG 23 22 false (.ld false 1 (.v 3)),
 yG 24 22 false (.fa 4 (.v 2)),
 yG 25 22 false (.ld false 1 (.v 24)),
 yG 26 22 false (.lenS (.v 25)),
 yG 27 22 false (.bin .geq false (.v 23) (.v 26)),
 yO 28 (.pk (.v 22) (yB true) (.v 27))]))) <|
 .cond (.v 28) (.seq (.ops ([
  yO 29 (.bd [yZ,yS,yS,yS,yS,yS] []),
  yN (.st 6 (.v 4) (.v 29)),
  yN (.st 1 (.v 5) (yI 2))])) <|
  .ret) (.nop)) <|
 .seq (.ops ([
 yD 30 6 2,
 yO 31 (.call (yC 30) [(.v 30)]),
 yO 7 (.nw 6 (.agg [yZ,yS,yS,yS,yS,yS]))] ++ mkL [3,4,5,7,31] ([
 yN (.st 6 (.v 7) (.v 31))]))) <|
 .seq (.ops ([
 yF 32 0 7,
 yF 33 4 32,
 yL 34 1 33,
 yL 35 1 3,
 yO 36 (.iaS 1 (.v 34) (.v 35)),
 yN (.st 1 (.v 36) (yB true))])) <|
 .seq (.seq (.ops ([
 yD 37 6 7,
 yO 38 (.call (yC 31) [(.v 37)])])) <|
 .block 0 (.rangeF 77 (some [3,4,5,7]) (.v 38) [39,40] (rfOf Tryz.prog 23 0).1 (rfOf Tryz.prog 23 0).2)) <|
 .seq (.ops ([
 yF 75 0 7,
 yD 76 6 75,
 yN (.st 6 (.v 4) (.v 76)),
 yN (.st 1 (.v 5) (yI 0))])) <|
 .ret
theorem il23_eq:cFn Tryz.prog pol 23 = some ⟨77,il23c,[(4,some (true,6)),(5,some (false,1))]⟩:=by kernel_rfl
noncomputable def il28l0b:C :=
 .seq (.ops ([
 yO 40 (.bin .lss false (.v 39) (.v 38))])) <|
 .seq (.cond (.v 40) (.nop) (.exit 0)) <|
 .seq (.block 1 (.seq (.ops ([
  yO 41 (.iaS 4 (.v 37) (.v 39)),
  yD 42 4 41,
  yO 5 (.nw 4 (.agg [yZ,yZ,yZ,yZ])),
  yN (.st 4 (.v 5) (.v 42))])) <|
  .seq (.ops ([
  yM 43 3,
  yF 44 0 5,
  yL 45 1 44,
  yO 46 (.iaS 1 (.v 43) (.v 45)),
  yL 47 1 46,
  yO 48 (.bin .add false (.v 47) (yI 1)),
  yO 49 (.iaS 1 (.v 43) (.v 45)),
  yN (.st 1 (.v 49) (.v 48))])) <|
  .ops ([
  yM 50 3] ++ mkL [1,3,5,37,38,39,50] ([
  yF 51 1 5,
  yL 52 1 51,
  yO 53 (.iaS 1 (.v 50) (.v 52)),
  yL 54 1 53,
  yO 55 (.bin .add false (.v 54) (yI 1)),
  yO 56 (.iaS 1 (.v 50) (.v 52)),
  yN (.st 1 (.v 56) (.v 55))])))) <|
 .ops ([
 yO 57 (.bin .add false (.v 39) (yI 1)),
 yM 39 57])
noncomputable def il28l0:C:=il28l0b
theorem il28l0_go {P pol K I n f R e h}:wc P pol K I n f il28l0 R e h = wc P pol K I n f il28l0b R e h:=(fun x=>x) rfl
noncomputable def il28l1b:C :=
 .seq (.ops ([
 yO 62 (.bin .lss false (.v 61) (.v 60))])) <|
 .seq (.cond (.v 62) (.nop) (.exit 2)) <|
 .seq (.block 3 (.seq (.ops ([
  yM 63 61,
  yO 64 (.iaS 1 (.v 59) (.v 61)),
  yL 65 1 64,
  yM 6 63,
  yM 7 65])) <|
  .seq (.ops ([
  yM 66 7,
  yM 67 66,
  yG 68 67 true (.mv (.v 3)),
  yG 69 67 true (.mv (.v 6)),
  yG 70 67 true (.iaS 1 (.v 68) (.v 69)),
  yG 71 67 true (.ld false 1 (.v 70)),
  yG 72 67 true (.bin .lss false (.v 71) (yI 1)),
  yG 73 67 true (.mv (.v 72))] ++ mkL [1,3,6,59,60,61,67,73] ([
  yG 74 73 false (.mv (.v 3)),
  yG 75 73 false (.mv (.v 6)),
  yG 76 73 false (.iaS 1 (.v 74) (.v 75)),
  yG 77 73 false (.ld false 1 (.v 76)),
  yG 78 73 false (.bin .gtr false (.v 77) (yI 2)),
  yG 79 67 true (.pk (.v 73) (yB true) (.v 78)),
  yO 80 (.pk (.v 67) (.v 79) (yB false))]))) <|
  .cond (.v 80) (.seq (.ops ([
   yO 2 (.mv (yI 260))])) <|
   .ret) (.nop))) <|
 .ops ([
 yO 81 (.bin .add false (.v 61) (yI 1)),
 yM 61 81])
noncomputable def il28l1:C:=il28l1b
theorem il28l1_go {P pol K I n f R e h}:wc P pol K I n f il28l1 R e h = wc P pol K I n f il28l1b R e h:=(fun x=>x) rfl
noncomputable def il28c:C :=
 .seq (.ops ([
 yO 1 (.bx false (.v 0)),
 yO 2 (.mv (yI 0))])) <|
 .seq (.seq (.ops ([
 yF 8 0 1,
 yL 9 1 8,
 yO 10 (.bin .lss false (.v 9) (yI 2)),
 yM 11 10,
 yG 12 11 false (.fa 0 (.v 1)),
 yG 13 11 false (.ld false 1 (.v 12)),
 yG 14 11 false (.bin .gtr false (.v 13) (yI 12)),
 yO 15 (.pk (.v 11) (yB true) (.v 14)),
 yM 16 15,
 yG 17 16 false (.fa 1 (.v 1)),
 yG 18 16 false (.ld false 1 (.v 17)),
 yG 19 16 false (.lenS (.v 18))] ++ mkL [1,16,19] ([
 yG 20 16 false (.fa 0 (.v 1)),
 yG 21 16 false (.ld false 1 (.v 20)),
 yG 22 16 false (.bin .neq false (.v 19) (.v 21)),
 yO 23 (.pk (.v 16) (yB true) (.v 22))]))) <|
 .cond (.v 23) (.seq (.ops ([
  yO 2 (.mv (yI 260))])) <|
  .ret) (.nop)) <|
 .seq (.seq (.ops ([
 yF 24 2 1,
 yL 25 1 24,
 yO 26 (.lenS (.v 25)),
 yO 27 (.bin .gtr false (.v 26) (yI 24)),
 yM 28 27,
 yG 29 28 false (.ld true 3 (.v 1)),
 yG 30 28 false (.call (yC 67) [(.v 29)]),
 yG 31 28 false (.nt (.v 30)),
 yO 32 (.pk (.v 28) (yB true) (.v 31))])) <| mkC [1,32] <|
 .cond (.v 32) (.seq (.ops ([
  yO 2 (.mv (yI 260))])) <|
  .ret) (.nop)) <|
 .seq (.ops ([
 yF 33 0 1,
 yL 34 1 33,
 yO 35 (.raw (opOf Tryz.prog 28 5 2)),
 yM 3 35])) <|
 .seq (.seq (.ops ([
 yF 36 2 1,
 yL 37 1 36,
 yO 38 (.lenS (.v 37)),
 yO 39 (.mv (yI 0))])) <|
 .block 0 (.loop (some [1,3,37,38,39]) il28l0)) <|
 .seq (.seq (.ops ([
 yF 58 1 1,
 yL 59 1 58,
 yO 60 (.lenS (.v 59)),
 yO 61 (.mv (yI 0))])) <|
 .block 2 (.loop (some [1,3,59,60,61]) il28l1)) <|
 .seq (.seq (.ops ([
 yD 82 3 1,
 yO 83 (.bd [(.sc (.bool false)),(.sc (.bool false)),(.sc (.bool false)),(.sc (.bool false)),(.sc (.bool false)),(.sc (.bool false)),(.sc (.bool false)),(.sc (.bool false)),(.sc (.bool false)),(.sc (.bool false)),(.sc (.bool false)),(.sc (.bool false)),(.sc (.bool false)),(.sc (.bool false)),(.sc (.bool false)),(.sc (.bool false)),(.sc (.bool false)),(.sc (.bool false)),(.sc (.bool false)),(.sc (.bool false)),(.sc (.bool false)),(.sc (.bool false)),(.sc (.bool false)),(.sc (.bool false))] []),
 yO 84 (.call (yC 69) [(.v 82),(yI 0),(.v 83)]),
 yO 85 (.call (yC 68) [(.v 84),(yB false)])])) <|
 .cond (.v 85) (.seq (.ops ([
  yO 2 (.mv (yI 260))])) <|
  .ret) (.nop)) <|
 .seq (.ops ([
 yO 2 (.mv (yI 0))])) <|
 .ret
theorem il28_eq:cFn Tryz.prog pol 28 = some ⟨86,il28c,[(2,none)]⟩:=by kernel_rfl
theorem raw28_5_2 {e:FEnv} {h:Heap}:iStep Tryz.prog pol 28 e h (.raw (opOf Tryz.prog 28 5 2)) = mkSl 1 8 (.sc (.int .i64 0)) h (asNat (Src.get e (.v 34))) (asNat (Src.get e (.v 34))):=raw_makeSlice (t:=26) (l:=(.tmp 34)) (c:=(.tmp 34)) (elem:=3) (by kernel_rfl) (by kernel_rfl) (by kernel_rfl) (by kernel_rfl) (by kernel_rfl) (by kernel_rfl) (by kernel_rfl)
noncomputable def il29l0b:C :=
 .seq (.ops ([
 yO 15 (.bin .lss false (.v 14) (.v 13))])) <|
 .seq (.cond (.v 15) (.nop) (.exit 0)) <|
 .seq (.block 1 (.seq (.ops ([
  yO 16 (.iaS 1 (.v 12) (.v 14)),
  yL 17 1 16,
  yM 6 17])) <|
  .seq (.ops ([
  yM 18 6,
  yO 19 (.bin .lss false (.v 18) (yI 0)),
  yM 20 19,
  yG 21 20 false (.mv (.v 6)),
  yG 22 20 false (.bin .gtr false (.v 21) (yI 15)),
  yO 23 (.pk (.v 20) (yB true) (.v 22))])) <|
  .cond (.v 23) (.seq (.ops ([
   yO 4 (.mv (yB false))])) <|
   .ret) (.nop))) <|
 .ops ([
 yO 24 (.bin .add false (.v 14) (yI 1)),
 yM 14 24])
noncomputable def il29l0:C:=il29l0b
theorem il29l0_go {P pol K I n f R e h}:wc P pol K I n f il29l0 R e h = wc P pol K I n f il29l0b R e h:=(fun x=>x) rfl
noncomputable def il29c:C :=
 .seq (.ops ([
 yO 2 (.bx false (.v 0)),
 yO 4 (.mv (yB false))])) <|
 .seq (.seq (.ops ([
 yM 7 1,
 yO 8 (.lenS (.v 7)),
 yF 9 0 2,
 yL 10 1 9,
 yO 11 (.bin .neq false (.v 8) (.v 10))])) <|
 .cond (.v 11) (.seq (.ops ([
  yO 4 (.mv (yB false))])) <|
  .ret) (.nop)) <|
 .seq (.seq (.ops ([
 yM 12 1,
 yO 13 (.lenS (.v 12)),
 yO 14 (.mv (yI 0))])) <|
 .block 0 (.loop (some [12,13,14]) il29l0)) <|
 .seq (.ops ([
 yO 4 (.mv (yB true))])) <|
 .ret
theorem il29_eq:cFn Tryz.prog pol 29 = some ⟨25,il29c,[(4,none)]⟩:=by kernel_rfl
noncomputable def il30l0b:C :=
 .seq (.ops ([
 yO 41 (.bin .lss false (.v 40) (.v 39))])) <|
 .seq (.cond (.v 41) (.nop) (.exit 0)) <|
 .seq (.block 1 (.seq (.ops ([
  yM 42 40,
  yO 43 (.iaS 5 (.v 38) (.v 40)),
  yD 44 5 43,
  yO 5 (.nw 5 (.agg [yZ,yZ,yS,yS,yS])),
  yM 4 42,
  yN (.st 5 (.v 5) (.v 44))])) <|
  .seq (.opsD [(1,5)] ([
  yF 45 5 3,
  yP 46 45 (.ld false 1 (.v 45)),
  yM 47 4,
  yF 48 2 5,
  yP 49 48 (.ld false 1 (.v 48)),
  yQ 50 (yC 70) [(.v 49)],
  yO 51 (.iaS 5 (.v 46) (.v 47))] ++ mkL [2,3,4,5,38,39,40,50,51] ([
  yF 52 2 51,
  yT 52 (.st 1 (.v 52) (.v 50))]))) <|
  .seq (.opsD [(1,5)] ([
  yF 53 5 3,
  yP 54 53 (.ld false 1 (.v 53)),
  yM 55 4,
  yF 56 3 5,
  yP 57 56 (.ld false 1 (.v 56)),
  yQ 58 (yC 70) [(.v 57)],
  yO 59 (.iaS 5 (.v 54) (.v 55)),
  yF 60 3 59,
  yT 60 (.st 1 (.v 60) (.v 58))])) <|
  .opsD [(1,5)] ([
  yF 61 5 3,
  yP 62 61 (.ld false 1 (.v 61)),
  yM 63 4] ++ mkL [2,3,5,38,39,40,62,63] ([
  yF 64 4 5,
  yP 65 64 (.ld false 1 (.v 64)),
  yQ 66 (yC 73) [(.v 65)],
  yO 67 (.iaS 5 (.v 62) (.v 63)),
  yF 68 4 67,
  yT 68 (.st 1 (.v 68) (.v 66))])))) <|
 .ops ([
 yO 69 (.bin .add false (.v 40) (yI 1)),
 yM 40 69])
noncomputable def il30l0:C:=il30l0b
theorem il30l0_go {P pol K I n f R e h}:wc P pol K I n f il30l0 R e h = wc P pol K I n f il30l0b R e h:=(fun x=>x) rfl
noncomputable def il30c:C :=
 .seq (.ops ([
 yO 1 (.bx false (.v 0)),
 yO 2 (.nw 6 (.agg [yZ,yS,yS,yS,yS,yS]))])) <|
 .seq (.opsD [(1,4),(4,6),(1,7),(1,9),(3,9),(4,9),(6,9),(7,9)] ([
 yF 6 0 1,
 yP 7 6 (.ld true 3 (.v 6)),
 yF 8 3 1,
 yP 9 8 (.ld false 1 (.v 8)),
 yQ 10 (yC 70) [(.v 9)],
 yF 11 4 1,
 yP 12 11 (.ld false 1 (.v 11)),
 yQ 13 (yC 71) [(.v 12)],
 yO 14 (.bd [yZ,yS,yS,yS,yS,yS] [(0,3,(.v 7)),(3,1,(.v 10)),(4,1,(.v 13))]),
 yO 3 (.nw 6 (.agg [yZ,yS,yS,yS,yS,yS])),
 yT 3 (.st 6 (.v 3) (.v 14))])) <|
 .seq (.ops ([
 yF 15 0 1] ++ mkL [1,2,3,15] ([
 yF 16 1 15,
 yL 17 1 16,
 yO 18 (.call (yC 71) [(.v 17)]),
 yF 19 0 3,
 yF 20 1 19,
 yN (.st 1 (.v 20) (.v 18))]))) <|
 .seq (.ops ([
 yF 21 0 1,
 yF 22 2 21,
 yL 23 1 22,
 yO 24 (.call (yC 72) [(.v 23)]),
 yF 25 0 3,
 yF 26 2 25,
 yN (.st 1 (.v 26) (.v 24))])) <|
 .seq (.ops ([
 yF 27 5 1] ++ mkL [1,2,3,27] ([
 yL 28 1 27,
 yO 29 (.lenS (.v 28)),
 yO 30 (.raw (opOf Tryz.prog 30 4 3)),
 yF 31 5 3,
 yN (.st 1 (.v 31) (.v 30))]))) <|
 .seq (.ops ([
 yF 32 5 3,
 yL 33 1 32,
 yF 34 5 1,
 yL 35 1 34,
 yO 36 (.raw (opOf Tryz.prog 30 5 4))])) <|
 .seq (.seq (.ops ([
 yF 37 5 1,
 yL 38 1 37,
 yO 39 (.lenS (.v 38)),
 yO 40 (.mv (yI 0))])) <| mkC [2,3,38,39,40] <|
 .block 0 (.loop (some [2,3,38,39,40]) il30l0)) <|
 .seq (.ops ([
 yD 70 6 3,
 yO 71 (.bd [yZ,yS,yS,yS,yS,yS] [(0,6,(.v 70))]),
 yN (.st 6 (.v 2) (.v 71))])) <|
 .ret
theorem il30_eq:cFn Tryz.prog pol 30 = some ⟨72,il30c,[(2,some (true,6))]⟩:=by kernel_rfl
theorem raw30_4_3 {e:FEnv} {h:Heap}:iStep Tryz.prog pol 30 e h (.raw (opOf Tryz.prog 30 4 3)) = mkSl 5 88 (.agg [(.sc (.int .i64 0)),(.sc (.int .i64 0)),(.sc (.slice none 0 0)),(.sc (.slice none 0 0)),(.sc (.slice none 0 0))]) h (asNat (Src.get e (.v 29))) (asNat (Src.get e (.v 29))):=raw_makeSlice (t:=29) (l:=(.tmp 29)) (c:=(.tmp 29)) (elem:=65) (by kernel_rfl) (by kernel_rfl) (by kernel_rfl) (by kernel_rfl) (by kernel_rfl) (by kernel_rfl) (by kernel_rfl)
theorem raw30_5_4 {e:FEnv} {h:Heap}:iStep Tryz.prog pol 30 e h (.raw (opOf Tryz.prog 30 5 4)) = cpA 5 (Src.get e (.v 33)) h (elemsOf h 5 (Src.get e (.v 35))):=raw_copy (t:=29) (ts:=[29]) (x:=(.tmp 33)) (y:=(.tmp 35)) (elem:=65) (by kernel_rfl) (by kernel_rfl) (by kernel_rfl) (by kernel_rfl)
noncomputable def il31c:C :=
 .seq (.ops ([
 yO 1 (.bx false (.v 0)),
 yO 2 (.mv (.c (.sc .nilFunc)))])) <|
 .seq (.ops ([
 yO 3 (.fn 74 [] [(.v 1)]),
 yM 2 3])) <|
 .ret
theorem il31_eq:cFn Tryz.prog pol 31 = some ⟨4,il31c,[(2,none)]⟩:=by kernel_rfl
noncomputable def il32l0b:C :=
 .seq (.ops ([
 yO 13 (.bin .lss false (.v 12) (.v 11))])) <|
 .seq (.cond (.v 13) (.nop) (.exit 0)) <|
 .seq (.block 1 (.seq (.ops ([
  yO 14 (.iaS 1 (.v 10) (.v 12)),
  yL 15 1 14,
  yM 7 15])) <|
  .seq (.opsD [(3,6)] ([
  yF 16 0 2,
  yF 17 0 16,
  yF 18 1 17,
  yP 19 18 (.ld false 1 (.v 18)),
  yP 20 2 (.ld true 6 (.v 2)),
  yM 21 7,
  yQ 22 (yC 76) [(.v 20),(.v 21)],
  yO 23 (.iaS 1 (.v 19) (.v 22)),
  yP 24 23 (.ld false 1 (.v 23)),
  yO 25 (.nt (.v 24))])) <| mkC [2,4,5,7,10,11,12,25] <|
  .cond (.v 25) (.seq (.ops ([
   yM 26 4,
   yM 27 7,
   yO 28 (.bs false 1 yZ 1 [(0,(.v 27))]),
   yO 29 (.app 1 8 (.v 26) (.v 28)),
   yO 4 (.gmv 1 (.v 29))])) <|
   .ops ([
   yM 30 5,
   yF 31 0 2,
   yF 32 0 31,
   yF 33 2 32,
   yL 34 1 33,
   yM 35 7,
   yO 36 (.bin .quo false (.v 35) (yI 2)),
   yO 37 (.iaS 4 (.v 34) (.v 36)),
   yF 38 2 37] ++ mkL [2,4,10,11,12,30,38] ([
   yL 39 1 38,
   yO 40 (.bs false 1 yZ 1 [(0,(.v 39))]),
   yO 41 (.app 1 8 (.v 30) (.v 40)),
   yO 5 (.gmv 1 (.v 41))]))) (.nop))) <|
 .ops ([
 yO 42 (.bin .add false (.v 12) (yI 1)),
 yM 12 42])
noncomputable def il32l0:C:=il32l0b
theorem il32l0_go {P pol K I n f R e h}:wc P pol K I n f il32l0 R e h = wc P pol K I n f il32l0b R e h:=(fun x=>x) rfl
noncomputable def il32c:C :=
 .seq (.ops ([
 yO 2 (.bx false (.v 0)),
 yO 4 (.gmv 1 (.c yS)),
 yO 5 (.gmv 1 (.c yS))])) <|
 .seq (.seq (.ops ([
 yD 8 6 2,
 yM 9 1,
 yO 10 (.call (yC 75) [(.v 8),(.v 9)]),
 yO 11 (.lenS (.v 10)),
 yO 12 (.mv (yI 0))])) <|
 .block 0 (.loop (some [2,4,5,10,11,12]) il32l0)) <|
 .seq (.ops ([
 yM 43 4,
 yM 44 5,
 yO 4 (.gmv 1 (.v 43)),
 yO 5 (.gmv 1 (.v 44))])) <|
 .ret
theorem il32_eq:cFn Tryz.prog pol 32 = some ⟨45,il32c,[(4,none),(5,none)]⟩:=by kernel_rfl
noncomputable def il33c:C :=
 .seq (.ops ([
 yO 3 (.bx false (.v 0)),
 yO 6 (.nw 5 (.agg [yZ,yZ,yS,yS,yS])),
 yO 7 (.mv (yI 0))])) <|
 .seq (.opsD [(0,5),(0,7),(4,7)] ([
 yP 9 3 (.ld true 2 (.v 3)),
 yM 10 1,
 yM 11 2,
 yM 12 1,
 yP 13 12 (.lenS (.v 12)),
 yO 14 (.raw (opOf Tryz.prog 33 1 5)),
 yO 15 (.bd [yZ,yZ,yS,yS,yS] [(0,2,(.v 9)),(2,1,(.v 10)),(3,1,(.v 11)),(4,1,(.v 14))]),
 yO 8 (.nw 5 (.agg [yZ,yZ,yS,yS,yS])),
 yT 8 (.st 5 (.v 8) (.v 15))])) <|
 .seq (.seq (.ops ([
 yD 16 5 8,
 yO 17 (.call (yC 77) [(.v 16)])] ++ mkL [6,8,17] ([
 yO 18 (.bin .neq false (.v 17) (yI 0))]))) <|
 .cond (.v 18) (.seq (.ops ([
  yO 19 (.bd [yZ,yZ,yS,yS,yS] []),
  yN (.st 5 (.v 6) (.v 19)),
  yO 7 (.mv (yI 2))])) <|
  .ret) (.nop)) <|
 .seq (.ops ([
 yD 20 5 8,
 ⟨some 21,none,some [(yC 78),(.v 20),(yC 79)],.objs [],.call (yC 78) [(.v 20),(yC 79)]⟩,
 yN (.st 5 (.v 6) (.v 21)),
 yO 7 (.mv (yI 0))])) <|
 .ret
theorem il33_eq:cFn Tryz.prog pol 33 = some ⟨22,il33c,[(6,some (true,5)),(7,none)]⟩:=by kernel_rfl
theorem raw33_1_5 {e:FEnv} {h:Heap}:iStep Tryz.prog pol 33 e h (.raw (opOf Tryz.prog 33 1 5)) = mkSl 8 64 (.agg [(.sc (.bool false)),(.sc (.int .i64 0)),(.sc (.int .i64 0)),(.sc (.int .i64 0)),(.sc (.int .i64 0)),(.sc (.int .i64 0)),(.sc (.int .i64 0)),(.sc (.int .i64 0))]) h (asNat (Src.get e (.v 13))) (asNat (Src.get e (.v 13))):=raw_makeSlice (t:=63) (l:=(.tmp 13)) (c:=(.tmp 13)) (elem:=89) (by kernel_rfl) (by kernel_rfl) (by kernel_rfl) (by kernel_rfl) (by kernel_rfl) (by kernel_rfl) (by kernel_rfl)
noncomputable def il34c:C :=
 .seq (.ops ([
 yO 2 (.bx false (.v 0)),
 yO 4 (.nw 2 (.agg [yZ,yZ]))])) <|
 .seq (.ops ([
 yF 5 0 2,
 yF 6 3 5,
 yL 7 1 6,
 yM 8 1,
 yO 9 (.iaS 1 (.v 7) (.v 8)),
 yL 10 1 9,
 yM 11 1,
 yO 12 (.bd [yZ,yZ] [(0,1,(.v 10)),(1,1,(.v 11))]),
 yN (.st 2 (.v 4) (.v 12))])) <|
 .ret
theorem il34_eq:cFn Tryz.prog pol 34 = some ⟨13,il34c,[(4,some (true,2))]⟩:=by kernel_rfl
noncomputable def il35c:C :=
 .seq (.ops ([
 yO 2 (.bx false (.v 0)),
 yO 3 (.bx false (.v 1)),
 yO 4 (.mv (yB false))])) <|
 .seq (.seq (.ops ([
 yD 5 3 2,
 yF 6 0 3,
 yL 7 1 6,
 yO 8 (.call (yC 80) [(.v 5),(.v 7)]),
 yO 9 (.nt (.v 8)),
 yM 10 9,
 yG 11 10 false (.ld true 3 (.v 2)),
 yG 12 10 false (.fa 1 (.v 3)),
 yG 13 10 false (.ld false 1 (.v 12)),
 yG 14 10 false (.call (yC 80) [(.v 11),(.v 13)]),
 yG 15 10 false (.nt (.v 14))] ++ mkL [2,3,10,15] ([
 yO 16 (.pk (.v 10) (yB true) (.v 15)),
 yM 17 16,
 yG 18 17 false (.fa 0 (.v 3)),
 yG 19 17 false (.ld false 1 (.v 18)),
 yG 20 17 false (.fa 1 (.v 3)),
 yG 21 17 false (.ld false 1 (.v 20)),
 yG 22 17 false (.bin .eql false (.v 19) (.v 21)),
 yO 23 (.pk (.v 17) (yB true) (.v 22)),
 yM 24 23,
 yG 25 24 false (.fa 1 (.v 2)),
 yG 26 24 false (.ld false 1 (.v 25)),
 yG 27 24 false (.fa 0 (.v 3)),
 yG 28 24 false (.ld false 1 (.v 27)),
 yG 29 24 false (.iaS 1 (.v 26) (.v 28))] ++ mkL [2,3,24,29] ([
 yG 30 24 false (.ld false 1 (.v 29)),
 yG 31 24 false (.mv (.v 30)),
 yG 32 31 true (.fa 1 (.v 2)),
 yG 33 31 true (.ld false 1 (.v 32)),
 yG 34 31 true (.fa 1 (.v 3)),
 yG 35 31 true (.ld false 1 (.v 34)),
 yG 36 31 true (.iaS 1 (.v 33) (.v 35)),
 yG 37 31 true (.ld false 1 (.v 36)),
 yG 38 24 false (.pk (.v 31) (.v 37) (yB false)),
 yO 39 (.pk (.v 24) (yB true) (.v 38))])))) <|
 .cond (.v 39) (.seq (.ops ([
  yO 4 (.mv (yB false))])) <|
  .ret) (.nop)) <|
 .seq (.ops ([
 yF 40 2 3,
 yL 41 1 40,
 yO 42 (.bin .geq false (.v 41) (yI 1))] ++ mkL [3,42] ([
 yM 43 42,
 yG 44 43 true (.fa 2 (.v 3)),
 yG 45 43 true (.ld false 1 (.v 44)),
 yG 46 43 true (.bin .leq false (.v 45) (yI 1000)),
 yO 47 (.pk (.v 43) (.v 46) (yB false)),
 yM 48 47,
 yG 49 48 true (.fa 3 (.v 3)),
 yG 50 48 true (.ld false 1 (.v 49)),
 yG 51 48 true (.bin .geq false (.v 50) (yI 0)),
 yO 52 (.pk (.v 48) (.v 51) (yB false)),
 yM 53 52,
 yG 54 53 true (.fa 3 (.v 3)),
 yG 55 53 true (.ld false 1 (.v 54)),
 yG 56 53 true (.bin .leq false (.v 55) (yI 10000))] ++ mkL [53,56] ([
 yO 57 (.pk (.v 53) (.v 56) (yB false)),
 yM 4 57])))) <|
 .ret
theorem il35_eq:cFn Tryz.prog pol 35 = some ⟨58,il35c,[(4,none)]⟩:=by kernel_rfl
noncomputable def il36c:C :=
 .seq (.ops ([
 yO 3 (.bx false (.v 0)),
 yO 6 (.mv (yB false))])) <|
 .seq (.ops ([
 yF 7 0 3,
 yL 8 1 7,
 yM 9 1,
 yO 10 (.bin .eql false (.v 8) (.v 9)),
 yM 11 10,
 yG 12 11 true (.fa 1 (.v 3)),
 yG 13 11 true (.ld false 1 (.v 12)),
 yG 14 11 true (.mv (.v 2)),
 yG 15 11 true (.bin .eql false (.v 13) (.v 14)),
 yO 16 (.pk (.v 11) (.v 15) (yB false)),
 yM 17 16,
 yG 18 17 false (.fa 0 (.v 3))] ++ mkL [1,2,3,17,18] ([
 yG 19 17 false (.ld false 1 (.v 18)),
 yG 20 17 false (.mv (.v 2)),
 yG 21 17 false (.bin .eql false (.v 19) (.v 20)),
 yG 22 17 false (.mv (.v 21)),
 yG 23 22 true (.fa 1 (.v 3)),
 yG 24 22 true (.ld false 1 (.v 23)),
 yG 25 22 true (.mv (.v 1)),
 yG 26 22 true (.bin .eql false (.v 24) (.v 25)),
 yG 27 17 false (.pk (.v 22) (.v 26) (yB false)),
 yO 28 (.pk (.v 17) (yB true) (.v 27)),
 yM 6 28]))) <|
 .ret
theorem il36_eq:cFn Tryz.prog pol 36 = some ⟨29,il36c,[(6,none)]⟩:=by kernel_rfl
noncomputable def il37l0b:C :=
 .seq (.seq (.ops ([
 yM 23 9,
 yF 24 2 3,
 yL 25 1 24,
 yO 26 (.lenS (.v 25)),
 yO 27 (.bin .lss false (.v 23) (.v 26))])) <|
 .cond (.v 27) (.nop) (.exit 2)) <|
 .seq (.block 3 (.seq (.ops ([
  yF 30 2 3,
  yL 31 1 30,
  yM 32 9,
  yO 33 (.iaS 4 (.v 31) (.v 32)),
  yD 34 4 33,
  yO 10 (.nw 4 (.agg [yZ,yZ,yZ,yZ])),
  yN (.st 4 (.v 10) (.v 34))])) <|
  .seq (.ops ([
  yM 35 2,
  yM 36 9] ++ mkL [2,3,7,8,9,10,35,36] ([
  yO 37 (.call (yC 81) [(.v 35),(.v 36)]),
  yO 38 (.nt (.v 37)),
  yM 39 38,
  yG 40 39 true (.mv (.v 7)),
  yG 41 39 true (.fa 0 (.v 10)),
  yG 42 39 true (.ld false 1 (.v 41)),
  yG 43 39 true (.iaS 1 (.v 40) (.v 42)),
  yG 44 39 true (.ld false 1 (.v 43)),
  yG 45 39 true (.mv (.v 44)),
  yG 46 45 false (.mv (.v 7)),
  yG 47 45 false (.fa 1 (.v 10)),
  yG 48 45 false (.ld false 1 (.v 47)),
  yG 49 45 false (.iaS 1 (.v 46) (.v 48)),
  yG 50 45 false (.ld false 1 (.v 49))] ++ mkL [2,3,7,8,9,10,39,45,50] ([
  yG 51 39 true (.pk (.v 45) (yB true) (.v 50)),
  yO 52 (.pk (.v 39) (.v 51) (yB false))])))) <|
  .cond (.v 52) (.seq (.ops ([
   yM 53 7,
   yF 54 0 10,
   yL 55 1 54,
   yO 56 (.iaS 1 (.v 53) (.v 55)),
   yN (.st 1 (.v 56) (yB true))])) <|
   .ops ([
   yM 57 7,
   yF 58 1 10,
   yL 59 1 58,
   yO 60 (.iaS 1 (.v 57) (.v 59)),
   yN (.st 1 (.v 60) (yB true))])) (.nop))) <|
 .ops ([
 yM 28 9,
 yO 29 (.bin .add false (.v 28) (yI 1))] ++ mkL [2,3,7,8,29] ([
 yM 9 29]))
noncomputable def il37l0:C:=il37l0b
theorem il37l0_go {P pol K I n f R e h}:wc P pol K I n f il37l0 R e h = wc P pol K I n f il37l0b R e h:=(fun x=>x) rfl
noncomputable def il37l1b:C :=
 .seq (.seq (.ops ([
 yM 17 8,
 yF 18 0 3,
 yL 19 1 18,
 yO 20 (.bin .lss false (.v 17) (.v 19))])) <|
 .cond (.v 20) (.nop) (.exit 0)) <|
 .seq (.block 1 (.seq (.ops ([
  yO 9 (.mv (yI 0))])) <|
  .block 2 (.loop (some [2,3,7,8,9]) il37l0))) <|
 .ops ([
 yM 21 8,
 yO 22 (.bin .add false (.v 21) (yI 1)),
 yM 8 22])
noncomputable def il37l1:C:=il37l1b
theorem il37l1_go {P pol K I n f R e h}:wc P pol K I n f il37l1 R e h = wc P pol K I n f il37l1b R e h:=(fun x=>x) rfl
noncomputable def il37c:C :=
 .seq (.ops ([
 yO 3 (.bx false (.v 0)),
 yO 6 (.mv (.c yS))])) <|
 .seq (.ops ([
 yF 11 0 3,
 yL 12 1 11,
 yO 13 (.raw (opOf Tryz.prog 37 1 2)),
 yM 7 13])) <|
 .seq (.ops ([
 yM 14 7,
 yM 15 1,
 yO 16 (.iaS 1 (.v 14) (.v 15)),
 yN (.st 1 (.v 16) (yB true))])) <|
 .seq (.seq (.ops ([
 yO 8 (.mv (yI 0))])) <|
 .block 0 (.loop (some [2,3,7,8]) il37l1)) <|
 .seq (.ops ([
 yM 61 7,
 yM 6 61])) <|
 .ret
theorem il37_eq:cFn Tryz.prog pol 37 = some ⟨62,il37c,[(6,none)]⟩:=by kernel_rfl
theorem raw37_1_2 {e:FEnv} {h:Heap}:iStep Tryz.prog pol 37 e h (.raw (opOf Tryz.prog 37 1 2)) = mkSl 1 1 (.sc (.bool false)) h (asNat (Src.get e (.v 12))) (asNat (Src.get e (.v 12))):=raw_makeSlice (t:=22) (l:=(.tmp 12)) (c:=(.tmp 12)) (elem:=4) (by kernel_rfl) (by kernel_rfl) (by kernel_rfl) (by kernel_rfl) (by kernel_rfl) (by kernel_rfl) (by kernel_rfl)
noncomputable def il38l0b:C :=
 .seq (.seq (.ops ([
 yM 41 5,
 yF 42 3 2,
 yL 43 1 42,
 yO 44 (.lenS (.v 43)),
 yO 45 (.bin .lss false (.v 41) (.v 44))])) <|
 .cond (.v 45) (.nop) (.exit 0)) <|
 .seq (.block 1 (.seq (.opsD [] ([
  yF 48 3 2,
  yP 49 48 (.ld false 1 (.v 48)),
  yM 50 5,
  yO 51 (.iaS 1 (.v 49) (.v 50)),
  yP 52 51 (.ld false 1 (.v 51)),
  yF 53 3 3,
  yP 54 53 (.ld false 1 (.v 53)),
  yM 55 5,
  yO 56 (.iaS 1 (.v 54) (.v 55))] ++ mkL [2,3,5,52,56] ([
  yP 57 56 (.ld false 1 (.v 56)),
  yO 58 (.bin .neq false (.v 52) (.v 57))]))) <|
  .cond (.v 58) (.seq (.ops ([
   yO 4 (.mv (yB false))])) <|
   .ret) (.nop))) <|
 .ops ([
 yM 46 5,
 yO 47 (.bin .add false (.v 46) (yI 1)),
 yM 5 47])
noncomputable def il38l0:C:=il38l0b
theorem il38l0_go {P pol K I n f R e h}:wc P pol K I n f il38l0 R e h = wc P pol K I n f il38l0b R e h:=(fun x=>x) rfl
noncomputable def il38l1b:C :=
 .seq (.seq (.ops ([
 yM 59 6,
 yF 60 4 2,
 yL 61 1 60,
 yO 62 (.lenS (.v 61)),
 yO 63 (.bin .lss false (.v 59) (.v 62))])) <|
 .cond (.v 63) (.nop) (.exit 2)) <|
 .seq (.block 3 (.seq (.opsD [] ([
  yF 66 4 2,
  yP 67 66 (.ld false 1 (.v 66)),
  yM 68 6,
  yO 69 (.iaS 1 (.v 67) (.v 68)),
  yP 70 69 (.ld false 1 (.v 69)),
  yF 71 4 3,
  yP 72 71 (.ld false 1 (.v 71)),
  yM 73 6,
  yO 74 (.iaS 1 (.v 72) (.v 73))] ++ mkL [2,3,6,70,74] ([
  yP 75 74 (.ld false 1 (.v 74)),
  yO 76 (.bin .neq true (.v 70) (.v 75))]))) <|
  .cond (.v 76) (.seq (.ops ([
   yO 4 (.mv (yB false))])) <|
   .ret) (.nop))) <|
 .ops ([
 yM 64 6,
 yO 65 (.bin .add false (.v 64) (yI 1)),
 yM 6 65])
noncomputable def il38l1:C:=il38l1b
theorem il38l1_go {P pol K I n f R e h}:wc P pol K I n f il38l1 R e h = wc P pol K I n f il38l1b R e h:=(fun x=>x) rfl
noncomputable def il38l2b:C :=
 .seq (.seq (.ops ([
 yM 77 7,
 yF 78 5 2,
 yL 79 1 78,
 yO 80 (.lenS (.v 79)),
 yO 81 (.bin .lss false (.v 77) (.v 80))])) <|
 .cond (.v 81) (.nop) (.exit 4)) <|
 .seq (.block 5 (.seq (.opsD [] ([
  yF 84 5 2,
  yP 85 84 (.ld false 1 (.v 84)),
  yM 86 7,
  yO 87 (.iaS 5 (.v 85) (.v 86)),
  yP 88 87 (.ld true 5 (.v 87)),
  yF 89 5 3,
  yP 90 89 (.ld false 1 (.v 89)),
  yM 91 7,
  yO 92 (.iaS 5 (.v 90) (.v 91))] ++ mkL [2,3,7,88,92] ([
  yP 93 92 (.ld true 5 (.v 92)),
  yQ 94 (yC 47) [(.v 88),(.v 93)],
  yO 95 (.nt (.v 94))]))) <|
  .cond (.v 95) (.seq (.ops ([
   yO 4 (.mv (yB false))])) <|
   .ret) (.nop))) <|
 .ops ([
 yM 82 7,
 yO 83 (.bin .add false (.v 82) (yI 1)),
 yM 7 83])
noncomputable def il38l2:C:=il38l2b
theorem il38l2_go {P pol K I n f R e h}:wc P pol K I n f il38l2 R e h = wc P pol K I n f il38l2b R e h:=(fun x=>x) rfl
noncomputable def il38c:C :=
 .seq (.ops ([
 yO 2 (.bx false (.v 0)),
 yO 3 (.bx false (.v 1)),
 yO 4 (.mv (yB false))])) <|
 .seq (.seq (.ops ([
 yF 8 0 2,
 yD 9 3 8,
 yF 10 0 3,
 yD 11 3 10,
 yO 12 (.call (yC 82) [(.v 9),(.v 11)]),
 yO 13 (.nt (.v 12)),
 yM 14 13,
 yG 15 14 false (.fa 3 (.v 2)),
 yG 16 14 false (.ld false 1 (.v 15)),
 yG 17 14 false (.lenS (.v 16)),
 yG 18 14 false (.fa 3 (.v 3))] ++ mkL [2,3,14,17,18] ([
 yG 19 14 false (.ld false 1 (.v 18)),
 yG 20 14 false (.lenS (.v 19)),
 yG 21 14 false (.bin .neq false (.v 17) (.v 20)),
 yO 22 (.pk (.v 14) (yB true) (.v 21)),
 yM 23 22,
 yG 24 23 false (.fa 4 (.v 2)),
 yG 25 23 false (.ld false 1 (.v 24)),
 yG 26 23 false (.lenS (.v 25)),
 yG 27 23 false (.fa 4 (.v 3)),
 yG 28 23 false (.ld false 1 (.v 27)),
 yG 29 23 false (.lenS (.v 28)),
 yG 30 23 false (.bin .neq false (.v 26) (.v 29)),
 yO 31 (.pk (.v 23) (yB true) (.v 30)),
 yM 32 31] ++ mkL [2,3,32] ([
 yG 33 32 false (.fa 5 (.v 2)),
 yG 34 32 false (.ld false 1 (.v 33)),
 yG 35 32 false (.lenS (.v 34)),
 yG 36 32 false (.fa 5 (.v 3)),
 yG 37 32 false (.ld false 1 (.v 36)),
 yG 38 32 false (.lenS (.v 37)),
 yG 39 32 false (.bin .neq false (.v 35) (.v 38)),
 yO 40 (.pk (.v 32) (yB true) (.v 39))])))) <|
 .cond (.v 40) (.seq (.ops ([
  yO 4 (.mv (yB false))])) <|
  .ret) (.nop)) <|
 .seq (.seq (.ops ([
 yO 5 (.mv (yI 0))])) <|
 .block 0 (.loop (some [2,3,5]) il38l0)) <|
 .seq (.seq (.ops ([
 yO 6 (.mv (yI 0))])) <|
 .block 2 (.loop (some [2,3,6]) il38l1)) <|
 .seq (.seq (.ops ([
 yO 7 (.mv (yI 0))])) <|
 .block 4 (.loop (some [2,3,7]) il38l2)) <|
 .seq (.ops ([
 yO 4 (.mv (yB true))])) <|
 .ret
theorem il38_eq:cFn Tryz.prog pol 38 = some ⟨96,il38c,[(4,none)]⟩:=by kernel_rfl
noncomputable def il39l0b:C :=
 .seq (.seq (.ops ([
 yM 22 6,
 yF 23 2 5,
 yL 24 1 23,
 yO 25 (.lenS (.v 24)),
 yO 26 (.bin .lss false (.v 22) (.v 25))])) <|
 .cond (.v 26) (.nop) (.exit 0)) <|
 .seq (.block 1 (.opsD [(1,9),(1,10)] ([
  yF 29 3 5,
  yP 30 29 (.ld false 1 (.v 29)),
  yF 31 0 2,
  yP 32 31 (.ld true 3 (.v 31)),
  yF 33 2 5,
  yP 34 33 (.ld false 1 (.v 33)),
  yM 35 6,
  yO 36 (.iaS 1 (.v 34) (.v 35)),
  yP 37 36 (.ld false 1 (.v 36))] ++ mkL [2,4,5,6,30,32,37] ([
  yQ 38 (yC 84) [(.v 32),(.v 37)],
  yO 39 (.bs false 1 yZ 1 [(0,(.v 38))]),
  ⟨some 40,none,none,.objs [(.v 30),(.v 39)],.app 1 8 (.v 30) (.v 39)⟩,
  yF 41 3 5,
  yT 41 (.st 1 (.v 41) (.v 40))])))) <|
 .ops ([
 yM 27 6,
 yO 28 (.bin .add false (.v 27) (yI 1)),
 yM 6 28])
noncomputable def il39l0:C:=il39l0b
theorem il39l0_go {P pol K I n f R e h}:wc P pol K I n f il39l0 R e h = wc P pol K I n f il39l0b R e h:=(fun x=>x) rfl
noncomputable def il39c:C :=
 .seq (.ops ([
 yO 2 (.bx false (.v 0)),
 yO 4 (.nw 5 (.agg [yZ,yZ,yS,yS,yS]))])) <|
 .seq (.seq (.ops ([
 yF 7 0 2,
 yF 8 1 7,
 yL 9 1 8,
 yM 10 1,
 yO 11 (.iaS 1 (.v 9) (.v 10)),
 yL 12 1 11])) <|
 .cond (.v 12) (.seq (.ops ([
  yO 13 (.bd [yZ,yZ,yS,yS,yS] []),
  yN (.st 5 (.v 4) (.v 13))])) <|
  .ret) (.nop)) <|
 .seq (.opsD [(2,4),(0,8),(2,8),(4,8),(6,8)] ([
 yP 14 2 (.ld true 6 (.v 2)),
 yM 15 1,
 yQ 16 (yC 56) [(.v 14),(.v 15)],
 yF 17 0 2] ++ mkL [1,2,4,16,17] ([
 yP 18 17 (.ld true 3 (.v 17)),
 yM 19 1,
 yQ 20 (yC 83) [(.v 18),(.v 19)],
 yO 21 (.bd [yZ,yZ,yS,yS,yS] [(0,2,(.v 16)),(2,1,(.v 20))]),
 yO 5 (.raw (opOf Tryz.prog 39 3 8)),
 yT 5 (.raw (opOf Tryz.prog 39 3 9))]))) <|
 .seq (.seq (.ops ([
 yO 6 (.mv (yI 0))])) <|
 .block 0 (.loop (some [2,4,5,6]) il39l0)) <|
 .seq (.ops ([
 yF 42 2 5,
 yL 43 1 42,
 yO 44 (.lenS (.v 43)),
 yO 45 (.raw (opOf Tryz.prog 39 8 3)),
 yF 46 4 5,
 yN (.st 1 (.v 46) (.v 45))])) <|
 .seq (.ops ([
 yD 47 5 5,
 yN (.st 5 (.v 4) (.v 47))])) <|
 .ret
theorem il39_eq:cFn Tryz.prog pol 39 = some ⟨48,il39c,[(4,some (true,5))]⟩:=by kernel_rfl
theorem raw39_3_8 {e:FEnv} {h:Heap}:iStep Tryz.prog pol 39 e h (.raw (opOf Tryz.prog 39 3 8)) = grS [(2,1),(3,1),(4,8)] h (growAV h.length [(2,1),(3,1),(4,8)] ([(.sc (.int .i64 0)),(.sc (.int .i64 0)),(.sc (.slice none 0 0)),(.sc (.slice none 0 0)),(.sc (.slice none 0 0))].map .t)):=raw_allocS (t:=65) (by kernel_rfl) (by kernel_rfl) (by kernel_rfl) (by kernel_rfl)
theorem raw39_3_9 {e:FEnv} {h:Heap}:iStep Tryz.prog pol 39 e h (.raw (opOf Tryz.prog 39 3 9)) = hOf (iStore 5 (Src.get e (.v 5)) (keepV h (Src.get e (.v 5)) (Src.get e (.v 21))) h):=raw_storeK (t:=65) (a:=(.tmp 5)) (x:=(.tmp 21)) (by kernel_rfl) (by kernel_rfl) (by kernel_rfl)
theorem raw39_8_3 {e:FEnv} {h:Heap}:iStep Tryz.prog pol 39 e h (.raw (opOf Tryz.prog 39 8 3)) = mkSl 8 64 (.agg [(.sc (.bool false)),(.sc (.int .i64 0)),(.sc (.int .i64 0)),(.sc (.int .i64 0)),(.sc (.int .i64 0)),(.sc (.int .i64 0)),(.sc (.int .i64 0)),(.sc (.int .i64 0))]) h (asNat (Src.get e (.v 44))) (asNat (Src.get e (.v 44))):=raw_makeSlice (t:=63) (l:=(.tmp 44)) (c:=(.tmp 44)) (elem:=89) (by kernel_rfl) (by kernel_rfl) (by kernel_rfl) (by kernel_rfl) (by kernel_rfl) (by kernel_rfl) (by kernel_rfl)
noncomputable def il40l0b:C :=
 .seq (.ops ([
 yO 77 (.bin .lss false (.v 76) (.v 75))])) <|
 .seq (.cond (.v 77) (.nop) (.exit 0)) <|
 .seq (.block 1 (.seq (.ops ([
  yM 78 76,
  yO 79 (.iaS 1 (.v 74) (.v 76)),
  yL 80 1 79,
  yM 8 78,
  yM 9 80])) <|
  .seq (.ops ([
  yF 81 0 2,
  yF 82 4 81,
  yL 83 1 82,
  yM 84 9,
  yO 85 (.bin .quo false (.v 84) (yI 2)),
  yO 86 (.iaS 1 (.v 83) (.v 85)),
  yL 87 1 86,
  yM 88 87] ++ mkL [2,5,8,74,75,76,88] ([
  yG 89 88 true (.fa 4 (.v 5)),
  yG 90 88 true (.ld false 1 (.v 89)),
  yG 91 88 true (.mv (.v 8)),
  yG 92 88 true (.iaS 8 (.v 90) (.v 91)),
  yG 93 88 true (.fa 0 (.v 92)),
  yG 94 88 true (.ld false 1 (.v 93)),
  yO 95 (.pk (.v 88) (.v 94) (yB false))]))) <|
  .cond (.v 95) (.seq (.ops ([
   yO 4 (.mv (yB false))])) <|
   .ret) (.nop))) <|
 .ops ([
 yO 96 (.bin .add false (.v 76) (yI 1)),
 yM 76 96])
noncomputable def il40l0:C:=il40l0b
theorem il40l0_go {P pol K I n f R e h}:wc P pol K I n f il40l0 R e h = wc P pol K I n f il40l0b R e h:=(fun x=>x) rfl
noncomputable def il40c:C :=
 .seq (.ops ([
 yO 2 (.bx false (.v 0)),
 yO 4 (.mv (yB false))])) <|
 .seq (.ops ([
 yF 10 0 2,
 yF 11 5 10,
 yL 12 1 11,
 yM 13 1,
 yO 14 (.iaS 5 (.v 12) (.v 13)),
 yD 15 5 14,
 yO 5 (.nw 5 (.agg [yZ,yZ,yS,yS,yS])),
 yN (.st 5 (.v 5) (.v 15))])) <|
 .seq (.seq (.ops ([
 yF 16 0 2,
 yF 17 0 16,
 yF 18 1 17,
 yL 19 1 18] ++ mkL [1,2,5,19] ([
 yM 20 1,
 yO 21 (.iaS 1 (.v 19) (.v 20)),
 yL 22 1 21]))) <|
 .cond (.v 22) (.seq (.ops ([
  yF 23 0 5,
  yD 24 2 23,
  yO 25 (.bd [yZ,yZ] []),
  yO 26 (.raw (opOf Tryz.prog 40 3 3)),
  yM 27 26,
  yG 28 27 true (.fa 2 (.v 5)),
  yG 29 27 true (.ld false 1 (.v 28)),
  yG 30 27 true (.lenS (.v 29)),
  yG 31 27 true (.bin .eql false (.v 30) (yI 0)),
  yO 32 (.pk (.v 27) (.v 31) (yB false)),
  yM 33 32] ++ mkL [5,33] ([
  yG 34 33 true (.fa 3 (.v 5)),
  yG 35 33 true (.ld false 1 (.v 34)),
  yG 36 33 true (.lenS (.v 35)),
  yG 37 33 true (.bin .eql false (.v 36) (yI 0)),
  yO 38 (.pk (.v 33) (.v 37) (yB false)),
  yM 39 38,
  yG 40 39 true (.fa 4 (.v 5)),
  yG 41 39 true (.ld false 1 (.v 40)),
  yG 42 39 true (.lenS (.v 41)),
  yG 43 39 true (.bin .eql false (.v 42) (yI 0)),
  yO 44 (.pk (.v 39) (.v 43) (yB false)),
  yM 4 44]))) <|
  .ret) (.nop)) <|
 .seq (.ops ([
 yD 46 6 2,
 yM 47 1] ++ mkL [1,2,5,46,47] ([
 yO 48 (.call (yC 32) [(.v 46),(.v 47)]),
 yM 45 48,
 yO 49 (.ex (.v 45) 0),
 yO 50 (.ex (.v 45) 1),
 yM 6 49,
 yM 7 50]))) <|
 .seq (.seq (.opsD [(5,8)] ([
 yP 51 5 (.ld true 5 (.v 5)),
 yQ 52 (yC 77) [(.v 51)],
 yO 53 (.bin .neq false (.v 52) (yI 0)),
 yM 54 53,
 yG 55 54 false (.fa 0 (.v 5)),
 ⟨some 56,some (54,false),none,.objs [(.v 55)],.ld true 2 (.v 55)⟩,
 ⟨some 57,some (54,false),none,.objs [(.v 2)],.ld true 6 (.v 2)⟩,
 yG 58 54 false (.mv (.v 1))] ++ mkL [2,5,6,7,54,56,57,58] ([
 ⟨some 59,some (54,false),none,.cal (yC 34) [(.v 57),(.v 58)],.call (yC 34) [(.v 57),(.v 58)]⟩,
 yG 60 54 false (.raw (opOf Tryz.prog 40 5 9)),
 yO 61 (.pk (.v 54) (yB true) (.v 60))]))) <|
 .cond (.v 61) (.seq (.ops ([
  yO 4 (.mv (yB false))])) <|
  .ret) (.nop)) <|
 .seq (.seq (.ops ([
 yF 62 2 5,
 yL 63 1 62,
 yM 64 6,
 yO 65 (.call (yC 19) [(.v 63),(.v 64)]),
 yO 66 (.nt (.v 65)),
 yM 67 66,
 yG 68 67 false (.fa 3 (.v 5)),
 yG 69 67 false (.ld false 1 (.v 68)),
 yG 70 67 false (.mv (.v 7)),
 yG 71 67 false (.call (yC 19) [(.v 69),(.v 70)])] ++ mkL [2,5,6,67,71] ([
 yG 72 67 false (.nt (.v 71)),
 yO 73 (.pk (.v 67) (yB true) (.v 72))]))) <|
 .cond (.v 73) (.seq (.ops ([
  yO 4 (.mv (yB false))])) <|
  .ret) (.nop)) <|
 .seq (.seq (.ops ([
 yM 74 6,
 yO 75 (.lenS (.v 74)),
 yO 76 (.mv (yI 0))])) <|
 .block 0 (.loop (some [2,5,74,75,76]) il40l0)) <|
 .seq (.ops ([
 yO 4 (.mv (yB true))])) <|
 .ret
theorem il40_eq:cFn Tryz.prog pol 40 = some ⟨97,il40c,[(4,none)]⟩:=by kernel_rfl
theorem raw40_3_3 {e:FEnv} {h:Heap}:iStep Tryz.prog pol 40 e h (.raw (opOf Tryz.prog 40 3 3)) = vOf h (binE Tryz.prog false 62 (.tmp 24) (.tmp 25) (Src.get e (.v 24)) (Src.get e (.v 25))):=raw_eql (x:=(.tmp 24)) (y:=(.tmp 25)) (s:=62) (by kernel_rfl)
theorem raw40_5_9 {e:FEnv} {h:Heap}:iStep Tryz.prog pol 40 e h (.raw (opOf Tryz.prog 40 5 9)) = vOf h (binE Tryz.prog true 62 (.tmp 56) (.tmp 59) (Src.get e (.v 56)) (Src.get e (.v 59))):=raw_neq (x:=(.tmp 56)) (y:=(.tmp 59)) (s:=62) (by kernel_rfl)
noncomputable def il41c:C :=
 .seq (.ops ([
 yO 1 (.bx false (.v 0)),
 yO 2 (.mv (.c yS)),
 yO 3 (.mv (yI 0))])) <|
 .seq (.ops ([
 yD 7 5 1,
 yO 8 (.call (yC 85) [(.v 7)]),
 yM 6 8,
 yO 9 (.ex (.v 6) 0),
 yO 10 (.ex (.v 6) 1),
 yO 4 (.nw 10 (.agg [yZ,yZ,yS,yS,yS,yZ,yZ,yZ,yZ,yZ])),
 yN (.st 10 (.v 4) (.v 9)),
 yM 5 10])) <|
 .seq (.seq (.ops ([
 yM 11 5,
 yO 12 (.bin .neq false (.v 11) (yI 0))])) <|
 .cond (.v 12) (.seq (.ops ([
  yM 13 5] ++ mkL [13] ([
  yO 2 (.mv (.c yS)),
  yM 3 13]))) <|
  .ret) (.nop)) <|
 .seq (.ops ([
 yD 14 10 4] ++ mkL [4,14] ([
 yD 15 10 4,
 yO 16 (.fn 87 [(.v 15)] []),
 yO 17 (.call (yC 86) [(.v 14),(.v 16)]),
 yM 2 17,
 yO 3 (.mv (yI 0))]))) <|
 .ret
theorem il41_eq:cFn Tryz.prog pol 41 = some ⟨18,il41c,[(2,none),(3,none)]⟩:=by kernel_rfl
noncomputable def il42l0b:C :=
 .seq (.ops ([
 yO 25 (.bin .lss false (.v 24) (.v 23))])) <|
 .seq (.cond (.v 25) (.nop) (.exit 2)) <|
 .seq (.block 3 (.seq (.ops ([
  yO 26 (.iaS 1 (.v 22) (.v 24)),
  yL 27 1 26,
  yM 8 27])) <|
  .block 4 (.seq (.ops ([
   yF 36 0 2,
   yF 37 4 36,
   yL 38 1 37,
   yM 39 8,
   yO 40 (.bin .quo false (.v 39) (yI 2)),
   yO 41 (.iaS 1 (.v 38) (.v 40)),
   yL 42 1 41,
   yM 35 42])) <|
   .cond (.v 35) (.ops ([
    yL 43 1 5,
    yM 44 8] ++ mkL [2,3,5,6,22,23,24,43,44] ([
    yO 45 (.iaS 1 (.v 43) (.v 44)),
    yN (.st 1 (.v 45) (yI 0))]))) (.seq (.opsD [(3,6)] ([
    yF 47 0 2,
    yF 48 0 47] ++ mkL [2,3,5,6,8,22,23,24,48] ([
    yF 49 1 48,
    yP 50 49 (.ld false 1 (.v 49)),
    yP 51 2 (.ld true 6 (.v 2)),
    yM 52 8,
    yQ 53 (yC 76) [(.v 51),(.v 52)],
    yO 54 (.iaS 1 (.v 50) (.v 53)),
    yP 55 54 (.ld false 1 (.v 54)),
    yM 46 55]))) <|
    .cond (.v 46) (.ops ([
     yL 56 1 5,
     yM 57 8,
     yO 58 (.iaS 1 (.v 56) (.v 57)),
     yN (.st 1 (.v 58) (yI 2))])) (.opsD [(0,5)] ([
     yP 28 5 (.ld false 1 (.v 5)),
     yM 29 8,
     yP 30 3 (.ld false 1 (.v 3)),
     yM 31 6,
     yM 32 8,
     ⟨some 33,none,none,.cal (.v 30) [(.v 31),(.v 32)],.call (.v 30) [(.v 31),(.v 32)]⟩] ++ mkL [2,3,5,6,22,23,24,28,29,33] ([
     yO 34 (.iaS 1 (.v 28) (.v 29)),
     yT 34 (.st 1 (.v 34) (.v 33))]))))))) <|
 .ops ([
 yO 59 (.bin .add false (.v 24) (yI 1)),
 yM 24 59])
noncomputable def il42l0:C:=il42l0b
theorem il42l0_go {P pol K I n f R e h}:wc P pol K I n f il42l0 R e h = wc P pol K I n f il42l0b R e h:=(fun x=>x) rfl
noncomputable def il42r0a:C :=
 .ops ([
 yM 6 18])
noncomputable def il42r0b:C :=
 .block 1 (.seq (.ops ([
  yD 20 6 2,
  yM 21 6,
  yO 22 (.call (yC 75) [(.v 20),(.v 21)]),
  yO 23 (.lenS (.v 22)),
  yO 24 (.mv (yI 0))])) <|
  .block 2 (.loop (some [2,3,5,6,22,23,24]) il42l0))
theorem il42r0a_eq:cCode Tryz.prog pol 42 61 0 (rfOf Tryz.prog 42 0).1 = il42r0a:=by kernel_rfl
theorem il42r0b_eq:cCode Tryz.prog pol 42 61 0 (rfOf Tryz.prog 42 0).2 = il42r0b:=by kernel_rfl
noncomputable def il42c:C :=
 .seq (.ops ([
 yO 2 (.bx false (.v 0)),
 yO 3 (.bx false (.v 1)),
 yO 4 (.mv (.c yS))])) <|
 .seq (.ops ([
 yF 9 0 2,
 yF 10 0 9,
 yF 11 2 10,
 yL 12 1 11,
 yO 13 (.lenS (.v 12)),
 yO 14 (.bin .mul false (yI 2) (.v 13)),
 yO 15 (.raw (opOf Tryz.prog 42 1 6)),
 yO 5 (.nw 1 yS),
 yN (.st 1 (.v 5) (.v 15))])) <|
 .seq (.seq (.ops ([
 yD 16 6 2,
 yO 17 (.call (yC 31) [(.v 16)])])) <| mkC [2,3,4,5,17] <|
 .block 0 (.rangeF 61 (some [2,3,5]) (.v 17) [18,19] (rfOf Tryz.prog 42 0).1 (rfOf Tryz.prog 42 0).2)) <|
 .seq (.ops ([
 yL 60 1 5,
 yM 4 60])) <|
 .ret
theorem il42_eq:cFn Tryz.prog pol 42 = some ⟨61,il42c,[(4,none)]⟩:=by kernel_rfl
theorem raw42_1_6 {e:FEnv} {h:Heap}:iStep Tryz.prog pol 42 e h (.raw (opOf Tryz.prog 42 1 6)) = mkSl 1 8 (.sc (.int .i64 0)) h (asNat (Src.get e (.v 14))) (asNat (Src.get e (.v 14))):=raw_makeSlice (t:=26) (l:=(.tmp 14)) (c:=(.tmp 14)) (elem:=3) (by kernel_rfl) (by kernel_rfl) (by kernel_rfl) (by kernel_rfl) (by kernel_rfl) (by kernel_rfl) (by kernel_rfl)
noncomputable def il43c:C :=
 .seq (.ops ([
 yO 6 (.mv (yI 0))])) <|
 .seq (.opsD [(0,11),(3,11)] ([
 yP 7 2 (.ld false 1 (.v 2)),
 yM 8 0,
 yO 9 (.iaS 1 (.v 7) (.v 8)),
 yP 10 9 (.ld false 1 (.v 9)),
 yF 11 5 3,
 yP 12 11 (.ld false 1 (.v 11)),
 yM 13 0,
 yO 14 (.iaS 5 (.v 12) (.v 13)),
 yF 15 2 14,
 yP 16 15 (.ld false 1 (.v 15)),
 yM 17 1,
 yQ 18 (yC 44) [(.v 16),(.v 17)],
 yO 19 (.iaS 1 (.v 10) (.v 18))] ++ mkL [19] ([
 yP 20 19 (.ld false 1 (.v 19)),
 yM 6 20]))) <|
 .ret
theorem il43_eq:cFn Tryz.prog pol 43 = some ⟨21,il43c,[(6,none)]⟩:=by kernel_rfl
noncomputable def il44l0b:C :=
 .seq (.ops ([
 yO 9 (.bin .lss false (.v 8) (.v 7))])) <|
 .seq (.cond (.v 9) (.nop) (.exit 0)) <|
 .seq (.block 1 (.seq (.ops ([
  yM 10 8,
  yM 5 10])) <|
  .seq (.ops ([
  yM 11 1,
  yM 12 0,
  yM 13 5,
  yO 14 (.iaS 1 (.v 12) (.v 13)),
  yL 15 1 14,
  yO 16 (.bin .eql false (.v 11) (.v 15))])) <|
  .cond (.v 16) (.seq (.ops ([
   yM 17 5,
   yM 4 17])) <|
   .ret) (.nop))) <|
 .ops ([
 yO 18 (.bin .add false (.v 8) (yI 1)),
 yM 8 18])
noncomputable def il44l0:C:=il44l0b
theorem il44l0_go {P pol K I n f R e h}:wc P pol K I n f il44l0 R e h = wc P pol K I n f il44l0b R e h:=(fun x=>x) rfl
noncomputable def il44c:C :=
 .seq (.ops ([
 yO 4 (.mv (yI 0))])) <|
 .seq (.seq (.ops ([
 yM 6 0,
 yO 7 (.lenS (.v 6)),
 yO 8 (.mv (yI 0))])) <|
 .block 0 (.loop (some [0,1,7,8]) il44l0)) <|
 .seq (.ops ([
 yO 4 (.mv (yI (-1)))])) <|
 .ret
theorem il44_eq:cFn Tryz.prog pol 44 = some ⟨19,il44c,[(4,none)]⟩:=by kernel_rfl
noncomputable def il45l0b:C :=
 .seq (.ops ([
 yO 43 (.bin .lss false (.v 42) (.v 41))])) <|
 .seq (.cond (.v 43) (.nop) (.exit 2)) <|
 .seq (.block 3 (.seq (.ops ([
  yO 44 (.iaS 1 (.v 40) (.v 42)),
  yL 45 1 44,
  yM 10 45])) <|
  .seq (.seq (.opsD [(11,14)] ([
  yF 46 0 1,
  yF 47 4 46,
  yP 48 47 (.ld false 1 (.v 47)),
  yM 49 10,
  yO 50 (.bin .quo false (.v 49) (yI 2)),
  yO 51 (.iaS 1 (.v 48) (.v 50)),
  yP 52 51 (.ld false 1 (.v 51)),
  yM 53 52,
  yG 54 53 false (.fa 0 (.v 1)),
  yG 55 53 false (.fa 0 (.v 54))] ++ mkL [1,5,6,7,8,10,40,41,42,53,55] ([
  yG 56 53 false (.fa 1 (.v 55)),
  ⟨some 57,some (53,false),none,.objs [(.v 56)],.ld false 1 (.v 56)⟩,
  ⟨some 58,some (53,false),none,.objs [(.v 1)],.ld true 6 (.v 1)⟩,
  yG 59 53 false (.mv (.v 10)),
  ⟨some 60,some (53,false),none,.cal (yC 76) [(.v 58),(.v 59)],.call (yC 76) [(.v 58),(.v 59)]⟩,
  yG 61 53 false (.iaS 1 (.v 57) (.v 60)),
  ⟨some 62,some (53,false),none,.objs [(.v 61)],.ld false 1 (.v 61)⟩,
  yO 63 (.pk (.v 53) (yB true) (.v 62))]))) <|
  .cond (.v 63) (.exit 3) (.nop)) <|
  .seq (.opsD [(0,12),(5,12),(10,12),(11,12)] ([
  yP 64 6 (.ld false 1 (.v 6)),
  yM 65 10,
  yF 66 0 1,
  yF 67 0 66,
  yF 68 2 67,
  yP 69 68 (.ld false 1 (.v 68))] ++ mkL [1,5,6,7,8,10,40,41,42,64,65,69] ([
  yM 70 10,
  yO 71 (.bin .quo false (.v 70) (yI 2)),
  yO 72 (.iaS 4 (.v 69) (.v 71)),
  yF 73 2 72,
  yP 74 73 (.ld false 1 (.v 73)),
  ⟨some 75,none,none,.cal (.v 64) [(.v 65),(.v 74)],.call (.v 64) [(.v 65),(.v 74)]⟩,
  yO 11 (.nw 6 (.agg [yZ,yZ,yZ,yZ,yZ,yZ])),
  yT 11 (.st 6 (.v 11) (.v 75))]))) <|
  .seq (.ops ([
  yL 76 1 5,
  yM 77 7,
  yO 78 (.iaS 1 (.v 76) (.v 77)),
  yL 79 1 78,
  yO 80 (.bin .lss false (.v 79) (yI 0)),
  yM 81 80] ++ mkL [1,5,6,7,8,10,11,40,41,42,81] ([
  yG 82 81 false (.ld true 6 (.v 11)),
  yG 83 81 false (.ld true 6 (.v 8)),
  yG 84 81 false (.call (yC 91) [(.v 82),(.v 83)]),
  yG 85 81 false (.bin .lss false (.v 84) (yI 0)),
  yO 86 (.pk (.v 81) (yB true) (.v 85))]))) <|
  .cond (.v 86) (.opsD [(3,5)] ([
   yP 87 5 (.ld false 1 (.v 5)),
   yM 88 7,
   yM 89 10,
   yP 90 11 (.ld true 6 (.v 11)),
   yO 91 (.iaS 1 (.v 87) (.v 88)),
   yT 91 (.st 1 (.v 91) (.v 89)),
   yT 8 (.st 6 (.v 8) (.v 90))])) (.nop))) <|
 .ops ([
 yO 92 (.bin .add false (.v 42) (yI 1)),
 yM 42 92])
noncomputable def il45l0:C:=il45l0b
theorem il45l0_go {P pol K I n f R e h}:wc P pol K I n f il45l0 R e h = wc P pol K I n f il45l0b R e h:=(fun x=>x) rfl
noncomputable def il45r0a:C :=
 .ops ([
 yM 7 25])
noncomputable def il45r0b:C :=
 .block 1 (.seq (.ops ([
  yL 27 1 5,
  yM 28 7,
  yO 29 (.iaS 1 (.v 27) (.v 28)),
  yN (.st 1 (.v 29) (yI (-1)))])) <|
  .seq (.seq (.opsD [(0,6),(3,6)] ([
  yP 30 3 (.ld false 1 (.v 3)),
  yM 31 7,
  yO 32 (.iaS 2 (.v 30) (.v 31)),
  yP 33 32 (.ld true 2 (.v 32)),
  yP 34 1 (.ld true 6 (.v 1)),
  yM 35 7,
  yQ 36 (yC 34) [(.v 34),(.v 35)],
  yO 37 (.raw (opOf Tryz.prog 45 8 7))])) <|
  .cond (.v 37) (.exit 1) (.nop)) <|
  .seq (.ops ([
  yO 8 (.nw 6 (.agg [yZ,yZ,yZ,yZ,yZ,yZ]))])) <|
  .seq (.ops ([
  yD 38 6 1] ++ mkL [1,5,6,7,8,38] ([
  yM 39 7,
  yO 40 (.call (yC 75) [(.v 38),(.v 39)]),
  yO 41 (.lenS (.v 40)),
  yO 42 (.mv (yI 0))]))) <|
  .block 2 (.loop (some [1,5,6,7,8,40,41,42]) il45l0))
theorem il45r0a_eq:cCode Tryz.prog pol 45 94 0 (rfOf Tryz.prog 45 0).1 = il45r0a:=by kernel_rfl
theorem il45r0b_eq:cCode Tryz.prog pol 45 94 0 (rfOf Tryz.prog 45 0).2 = il45r0b:=by kernel_rfl
noncomputable def il45c:C :=
 .seq (.ops ([
 yO 1 (.bx false (.v 0)),
 yO 2 (.mv (.c (.sc .nilFunc)))])) <|
 .seq (.ops ([
 yD 12 6 1,
 yO 13 (.call (yC 88) [(.v 12)]),
 yO 3 (.nw 1 yS),
 yN (.st 1 (.v 3) (.v 13))])) <|
 .seq (.ops ([
 yD 14 6 1,
 yL 15 1 3,
 yO 16 (.call (yC 89) [(.v 14),(.v 15)]),
 yO 4 (.nw 1 yS),
 yN (.st 1 (.v 4) (.v 16))])) <|
 .seq (.ops ([
 yF 17 0 1,
 yF 18 0 17,
 yF 19 0 18] ++ mkL [1,2,3,4,19] ([
 yL 20 1 19,
 yO 21 (.raw (opOf Tryz.prog 45 3 4)),
 yO 5 (.nw 1 yS),
 yN (.st 1 (.v 5) (.v 21))]))) <|
 .seq (.ops ([
 ⟨some 22,none,some [(.v 1),(.v 4)],.objs [],.fn 90 [] [(.v 1),(.v 4)]⟩,
 yO 6 (.nw 1 (.sc .nilFunc)),
 yN (.st 1 (.v 6) (.v 22))])) <|
 .seq (.seq (.ops ([
 yD 23 6 1,
 yO 24 (.call (yC 31) [(.v 23)])])) <|
 .block 0 (.rangeF 94 (some [1,3,5,6]) (.v 24) [25,26] (rfOf Tryz.prog 45 0).1 (rfOf Tryz.prog 45 0).2)) <|
 .seq (.ops ([
 yO 93 (.fn 92 [] [(.v 4),(.v 1),(.v 5),(.v 6)]),
 yM 2 93])) <|
 .ret
theorem il45_eq:cFn Tryz.prog pol 45 = some ⟨94,il45c,[(2,none)]⟩:=by kernel_rfl
theorem raw45_3_4 {e:FEnv} {h:Heap}:iStep Tryz.prog pol 45 e h (.raw (opOf Tryz.prog 45 3 4)) = mkSl 1 8 (.sc (.int .i64 0)) h (asNat (Src.get e (.v 20))) (asNat (Src.get e (.v 20))):=raw_makeSlice (t:=26) (l:=(.tmp 20)) (c:=(.tmp 20)) (elem:=3) (by kernel_rfl) (by kernel_rfl) (by kernel_rfl) (by kernel_rfl) (by kernel_rfl) (by kernel_rfl) (by kernel_rfl)
theorem raw45_8_7 {e:FEnv} {h:Heap}:iStep Tryz.prog pol 45 e h (.raw (opOf Tryz.prog 45 8 7)) = vOf h (binE Tryz.prog false 62 (.tmp 33) (.tmp 36) (Src.get e (.v 33)) (Src.get e (.v 36))):=raw_eql (x:=(.tmp 33)) (y:=(.tmp 36)) (s:=62) (by kernel_rfl)
noncomputable def il47l0b:C :=
 .seq (.seq (.ops ([
 yM 40 5,
 yF 41 2 2,
 yL 42 1 41,
 yO 43 (.lenS (.v 42)),
 yO 44 (.bin .lss false (.v 40) (.v 43))])) <|
 .cond (.v 44) (.nop) (.exit 0)) <|
 .seq (.block 1 (.seq (.opsD [] ([
  yF 47 2 2,
  yP 48 47 (.ld false 1 (.v 47)),
  yM 49 5,
  yO 50 (.iaS 1 (.v 48) (.v 49)),
  yP 51 50 (.ld false 1 (.v 50)),
  yF 52 2 3,
  yP 53 52 (.ld false 1 (.v 52)),
  yM 54 5,
  yO 55 (.iaS 1 (.v 53) (.v 54))] ++ mkL [2,3,5,51,55] ([
  yP 56 55 (.ld false 1 (.v 55)),
  yO 57 (.bin .neq false (.v 51) (.v 56))]))) <|
  .cond (.v 57) (.seq (.ops ([
   yO 4 (.mv (yB false))])) <|
   .ret) (.nop))) <|
 .ops ([
 yM 45 5,
 yO 46 (.bin .add false (.v 45) (yI 1)),
 yM 5 46])
noncomputable def il47l0:C:=il47l0b
theorem il47l0_go {P pol K I n f R e h}:wc P pol K I n f il47l0 R e h = wc P pol K I n f il47l0b R e h:=(fun x=>x) rfl
noncomputable def il47l1b:C :=
 .seq (.seq (.ops ([
 yM 58 6,
 yF 59 3 2,
 yL 60 1 59,
 yO 61 (.lenS (.v 60)),
 yO 62 (.bin .lss false (.v 58) (.v 61))])) <|
 .cond (.v 62) (.nop) (.exit 2)) <|
 .seq (.block 3 (.seq (.opsD [] ([
  yF 65 3 2,
  yP 66 65 (.ld false 1 (.v 65)),
  yM 67 6,
  yO 68 (.iaS 1 (.v 66) (.v 67)),
  yP 69 68 (.ld false 1 (.v 68)),
  yF 70 3 3,
  yP 71 70 (.ld false 1 (.v 70)),
  yM 72 6,
  yO 73 (.iaS 1 (.v 71) (.v 72))] ++ mkL [2,3,6,69,73] ([
  yP 74 73 (.ld false 1 (.v 73)),
  yO 75 (.bin .neq false (.v 69) (.v 74))]))) <|
  .cond (.v 75) (.seq (.ops ([
   yO 4 (.mv (yB false))])) <|
   .ret) (.nop))) <|
 .ops ([
 yM 63 6,
 yO 64 (.bin .add false (.v 63) (yI 1)),
 yM 6 64])
noncomputable def il47l1:C:=il47l1b
theorem il47l1_go {P pol K I n f R e h}:wc P pol K I n f il47l1 R e h = wc P pol K I n f il47l1b R e h:=(fun x=>x) rfl
noncomputable def il47l2b:C :=
 .seq (.seq (.ops ([
 yM 76 7,
 yF 77 4 2,
 yL 78 1 77,
 yO 79 (.lenS (.v 78)),
 yO 80 (.bin .lss false (.v 76) (.v 79))])) <|
 .cond (.v 80) (.nop) (.exit 4)) <|
 .seq (.block 5 (.seq (.opsD [] ([
  yF 83 4 2,
  yP 84 83 (.ld false 1 (.v 83)),
  yM 85 7,
  yO 86 (.iaS 8 (.v 84) (.v 85)),
  yP 87 86 (.ld true 8 (.v 86)),
  yF 88 4 3,
  yP 89 88 (.ld false 1 (.v 88)),
  yM 90 7,
  yO 91 (.iaS 8 (.v 89) (.v 90))] ++ mkL [2,3,7,87,91] ([
  yP 92 91 (.ld true 8 (.v 91)),
  yO 93 (.raw (opOf Tryz.prog 47 16 10))]))) <|
  .cond (.v 93) (.seq (.ops ([
   yO 4 (.mv (yB false))])) <|
   .ret) (.nop))) <|
 .ops ([
 yM 81 7,
 yO 82 (.bin .add false (.v 81) (yI 1)),
 yM 7 82])
noncomputable def il47l2:C:=il47l2b
theorem il47l2_go {P pol K I n f R e h}:wc P pol K I n f il47l2 R e h = wc P pol K I n f il47l2b R e h:=(fun x=>x) rfl
noncomputable def il47c:C :=
 .seq (.ops ([
 yO 2 (.bx false (.v 0)),
 yO 3 (.bx false (.v 1)),
 yO 4 (.mv (yB false))])) <|
 .seq (.seq (.ops ([
 yF 8 0 2,
 yD 9 2 8,
 yF 10 0 3,
 yD 11 2 10,
 yO 12 (.raw (opOf Tryz.prog 47 1 4)),
 yM 13 12,
 yG 14 13 false (.fa 2 (.v 2)),
 yG 15 13 false (.ld false 1 (.v 14)),
 yG 16 13 false (.lenS (.v 15)),
 yG 17 13 false (.fa 2 (.v 3)),
 yG 18 13 false (.ld false 1 (.v 17))] ++ mkL [2,3,13,16,18] ([
 yG 19 13 false (.lenS (.v 18)),
 yG 20 13 false (.bin .neq false (.v 16) (.v 19)),
 yO 21 (.pk (.v 13) (yB true) (.v 20)),
 yM 22 21,
 yG 23 22 false (.fa 3 (.v 2)),
 yG 24 22 false (.ld false 1 (.v 23)),
 yG 25 22 false (.lenS (.v 24)),
 yG 26 22 false (.fa 3 (.v 3)),
 yG 27 22 false (.ld false 1 (.v 26)),
 yG 28 22 false (.lenS (.v 27)),
 yG 29 22 false (.bin .neq false (.v 25) (.v 28)),
 yO 30 (.pk (.v 22) (yB true) (.v 29)),
 yM 31 30,
 yG 32 31 false (.fa 4 (.v 2))] ++ mkL [2,3,31,32] ([
 yG 33 31 false (.ld false 1 (.v 32)),
 yG 34 31 false (.lenS (.v 33)),
 yG 35 31 false (.fa 4 (.v 3)),
 yG 36 31 false (.ld false 1 (.v 35)),
 yG 37 31 false (.lenS (.v 36)),
 yG 38 31 false (.bin .neq false (.v 34) (.v 37)),
 yO 39 (.pk (.v 31) (yB true) (.v 38))])))) <|
 .cond (.v 39) (.seq (.ops ([
  yO 4 (.mv (yB false))])) <|
  .ret) (.nop)) <|
 .seq (.seq (.ops ([
 yO 5 (.mv (yI 0))])) <|
 .block 0 (.loop (some [2,3,5]) il47l0)) <|
 .seq (.seq (.ops ([
 yO 6 (.mv (yI 0))])) <|
 .block 2 (.loop (some [2,3,6]) il47l1)) <|
 .seq (.seq (.ops ([
 yO 7 (.mv (yI 0))])) <|
 .block 4 (.loop (some [2,3,7]) il47l2)) <|
 .seq (.ops ([
 yO 4 (.mv (yB true))])) <|
 .ret
theorem il47_eq:cFn Tryz.prog pol 47 = some ⟨94,il47c,[(4,none)]⟩:=by kernel_rfl
theorem raw47_1_4 {e:FEnv} {h:Heap}:iStep Tryz.prog pol 47 e h (.raw (opOf Tryz.prog 47 1 4)) = vOf h (binE Tryz.prog true 62 (.tmp 9) (.tmp 11) (Src.get e (.v 9)) (Src.get e (.v 11))):=raw_neq (x:=(.tmp 9)) (y:=(.tmp 11)) (s:=62) (by kernel_rfl)
theorem raw47_16_10 {e:FEnv} {h:Heap}:iStep Tryz.prog pol 47 e h (.raw (opOf Tryz.prog 47 16 10)) = vOf h (binE Tryz.prog true 89 (.tmp 87) (.tmp 92) (Src.get e (.v 87)) (Src.get e (.v 92))):=raw_neq (x:=(.tmp 87)) (y:=(.tmp 92)) (s:=89) (by kernel_rfl)
noncomputable def il49c:C :=
 .seq (.ops ([
 yO 2 (.bx false (.v 0)),
 yO 4 (.mv (yI 0))])) <|
 .seq (.ops ([
 yF 6 2 2,
 yL 7 1 6,
 yM 8 1,
 yO 9 (.bin .quo false (.v 8) (yI 2)),
 yO 10 (.iaS 4 (.v 7) (.v 9)),
 yD 11 4 10,
 yO 5 (.nw 4 (.agg [yZ,yZ,yZ,yZ])),
 yN (.st 4 (.v 5) (.v 11))])) <|
 .seq (.seq (.ops ([
 yM 12 1,
 yO 13 (.bin .rem false (.v 12) (yI 2)),
 yO 14 (.bin .eql false (.v 13) (yI 1))])) <|
 .cond (.v 14) (.seq (.ops ([
  yF 15 1 5] ++ mkL [15] ([
  yL 16 1 15,
  yM 4 16]))) <|
  .ret) (.nop)) <|
 .seq (.ops ([
 yF 17 0 5] ++ mkL [17] ([
 yL 18 1 17,
 yM 4 18]))) <|
 .ret
theorem il49_eq:cFn Tryz.prog pol 49 = some ⟨19,il49c,[(4,none)]⟩:=by kernel_rfl
noncomputable def il54c:C :=
 .seq (.ops ([
 yO 2 (.bx false (.v 0)),
 yO 4 (.mv (yI 0))])) <|
 .seq (.ops ([
 yF 6 2 2,
 yL 7 1 6,
 yM 8 1,
 yO 9 (.bin .quo false (.v 8) (yI 2)),
 yO 10 (.iaS 4 (.v 7) (.v 9)),
 yD 11 4 10,
 yO 5 (.nw 4 (.agg [yZ,yZ,yZ,yZ])),
 yN (.st 4 (.v 5) (.v 11))])) <|
 .seq (.seq (.ops ([
 yM 12 1,
 yO 13 (.bin .rem false (.v 12) (yI 2)),
 yO 14 (.bin .eql false (.v 13) (yI 1))])) <|
 .cond (.v 14) (.seq (.ops ([
  yF 15 0 5] ++ mkL [15] ([
  yL 16 1 15,
  yM 4 16]))) <|
  .ret) (.nop)) <|
 .seq (.ops ([
 yF 17 1 5] ++ mkL [17] ([
 yL 18 1 17,
 yM 4 18]))) <|
 .ret
theorem il54_eq:cFn Tryz.prog pol 54 = some ⟨19,il54c,[(4,none)]⟩:=by kernel_rfl
noncomputable def il56c:C :=
 .seq (.ops ([
 yO 2 (.bx false (.v 0)),
 yO 4 (.nw 2 (.agg [yZ,yZ]))])) <|
 .seq (.ops ([
 yF 5 3 2,
 yL 6 1 5,
 yM 7 1,
 yO 8 (.iaS 1 (.v 6) (.v 7)),
 yL 9 1 8,
 yM 10 1,
 yO 11 (.bd [yZ,yZ] [(0,1,(.v 9)),(1,1,(.v 10))]),
 yN (.st 2 (.v 4) (.v 11))])) <|
 .ret
theorem il56_eq:cFn Tryz.prog pol 56 = some ⟨12,il56c,[(4,some (true,2))]⟩:=by kernel_rfl
noncomputable def il59r0a:C :=
 .seq (.ops ([
 yM 3 23])) <|
 .ops ([
 yO 4 (.nw 5 (.agg [yZ,yZ,yS,yS,yS])),
 yN (.st 5 (.v 4) (.v 24))])
noncomputable def il59r0b:C :=
 .block 1 (.seq (.ops ([
  yD 26 5 4,
  yO 27 (.call (yC 100) [(.v 26)]),
  yM 25 27,
  yO 28 (.ex (.v 25) 0),
  yO 29 (.ex (.v 25) 1),
  yM 5 28,
  yM 6 29])) <|
  .seq (.seq (.ops ([
  yM 30 6,
  yO 31 (.bin .neq false (.v 30) (yI 0))])) <|
  .cond (.v 31) (.seq (.ops ([
   yM 32 6,
   yN (.st 1 (.v 2) (.v 32))])) <|
   .ret) (.nop)) <|
  .ops ([
  yL 33 1 1,
  yO 34 (.nc (.v 33)),
  yF 35 6 34] ++ mkL [3,5,35] ([
  yL 36 1 35,
  yM 37 3,
  yM 38 5,
  yO 39 (.iaS 1 (.v 36) (.v 37)),
  yN (.st 1 (.v 39) (.v 38))])))
theorem il59r0a_eq:cCode Tryz.prog pol 59 40 0 (rfOf Tryz.prog 59 0).1 = il59r0a:=by kernel_rfl
theorem il59r0b_eq:cCode Tryz.prog pol 59 40 0 (rfOf Tryz.prog 59 0).2 = il59r0b:=by kernel_rfl
noncomputable def il59c:C :=
 .seq (.ops ([
 yO 1 (.bx false (.v 0)),
 yO 2 (.nw 1 yZ)])) <|
 .seq (.opsD [(0,8)] ([
 yP 7 1 (.ld false 1 (.v 1)),
 yP 8 1 (.ld false 1 (.v 1)),
 yO 9 (.nc (.v 8)),
 yF 10 0 9,
 yF 11 0 10,
 yF 12 5 11,
 yP 13 12 (.ld false 1 (.v 12)),
 yP 14 13 (.lenS (.v 13)),
 yO 15 (.raw (opOf Tryz.prog 59 1 8)),
 yO 16 (.nc (.v 7)),
 yF 17 6 16,
 yT 17 (.st 1 (.v 17) (.v 15))])) <| mkC [1,2] <|
 .seq (.seq (.ops ([
 yL 18 1 1,
 yO 19 (.nc (.v 18)),
 yF 20 0 19,
 yD 21 6 20,
 yO 22 (.call (yC 31) [(.v 21)])])) <|
 .block 0 (.rangeF 40 (some [1,2]) (.v 22) [23,24] (rfOf Tryz.prog 59 0).1 (rfOf Tryz.prog 59 0).2)) <|
 .seq (.ops ([
 yN (.st 1 (.v 2) (yI 0))])) <|
 .ret
theorem il59_eq:cFn Tryz.prog pol 59 = some ⟨40,il59c,[(2,some (false,1))]⟩:=by kernel_rfl
theorem raw59_1_8 {e:FEnv} {h:Heap}:iStep Tryz.prog pol 59 e h (.raw (opOf Tryz.prog 59 1 8)) = mkSl 1 24 (.sc (.slice none 0 0)) h (asNat (Src.get e (.v 14))) (asNat (Src.get e (.v 14))):=raw_makeSlice (t:=107) (l:=(.tmp 14)) (c:=(.tmp 14)) (elem:=63) (by kernel_rfl) (by kernel_rfl) (by kernel_rfl) (by kernel_rfl) (by kernel_rfl) (by kernel_rfl) (by kernel_rfl)
noncomputable def il60l0b:C :=
 .seq (.ops ([
 yO 28 (.bin .lss false (.v 27) (.v 26))])) <|
 .seq (.cond (.v 28) (.nop) (.exit 2)) <|
 .seq (.block 3 (.seq (.ops ([
  yM 29 27,
  yO 30 (.iaS 8 (.v 25) (.v 27)),
  yD 31 8 30,
  yO 6 (.nw 8 (.agg [(.sc (.bool false)),yZ,yZ,yZ,yZ,yZ,yZ,yZ])),
  yM 5 29,
  yN (.st 8 (.v 6) (.v 31))])) <|
  .seq (.ops ([
  yF 32 2 4,
  yL 33 1 32,
  yM 34 5,
  yO 35 (.iaS 1 (.v 33) (.v 34)),
  yL 36 1 35,
  yM 7 36])) <|
  .seq (.seq (.ops ([
  yF 37 0 6] ++ mkL [1,2,4,6,7,25,26,27,37] ([
  yL 38 1 37,
  yO 39 (.nt (.v 38)),
  yM 40 39,
  yG 41 40 false (.ld false 1 (.v 1)),
  yG 42 40 false (.nc (.v 41)),
  yG 43 40 false (.fa 0 (.v 42)),
  yG 44 40 false (.fa 0 (.v 43)),
  yG 45 40 false (.fa 4 (.v 44)),
  yG 46 40 false (.ld false 1 (.v 45)),
  yG 47 40 false (.mv (.v 7)),
  yG 48 40 false (.bin .quo false (.v 47) (yI 2)),
  yG 49 40 false (.iaS 1 (.v 46) (.v 48)),
  yG 50 40 false (.ld false 1 (.v 49)),
  yO 51 (.pk (.v 40) (yB true) (.v 50))]))) <| mkC [1,2,4,6,7,25,26,27,51] <|
  .cond (.v 51) (.exit 3) (.nop)) <|
  .seq (.ops ([
  yL 52 1 1,
  yO 53 (.nc (.v 52)),
  yF 54 0 53,
  yD 55 6 54,
  yM 56 7,
  yO 57 (.call (yC 76) [(.v 55),(.v 56)]),
  yM 8 57])) <|
  .seq (.ops ([
  yL 58 1 1,
  yO 59 (.nc (.v 58)),
  yF 60 0 59,
  yF 61 0 60,
  yF 62 5 61,
  yL 63 1 62,
  yM 64 8] ++ mkL [1,2,4,6,7,8,25,26,27,63,64] ([
  yO 65 (.iaS 5 (.v 63) (.v 64)),
  yF 66 2 65,
  yL 67 1 66,
  yM 68 7,
  yO 69 (.bin .xor false (.v 68) (yI 1)),
  yO 70 (.call (yC 44) [(.v 67),(.v 69)]),
  yM 9 70]))) <|
  .seq (.opsD [(0,16),(5,16),(8,16),(11,16),(12,16)] ([
  yP 72 1 (.ld false 1 (.v 1)),
  yO 73 (.nc (.v 72)),
  yF 74 0 73,
  yF 75 0 74,
  yF 76 5 75,
  yP 77 76 (.ld false 1 (.v 76)),
  yM 78 8] ++ mkL [1,2,4,6,8,9,25,26,27,77,78] ([
  yO 79 (.iaS 5 (.v 77) (.v 78)),
  yP 80 79 (.ld true 5 (.v 79)),
  yM 81 9,
  yF 82 1 6,
  yP 83 82 (.ld true 7 (.v 82)),
  yQ 84 (yC 101) [(.v 80),(.v 81),(.v 83)],
  yM 71 84,
  yO 85 (.ex (.v 71) 0),
  yO 86 (.ex (.v 71) 1),
  yO 10 (.nw 5 (.agg [yZ,yZ,yS,yS,yS])),
  yT 10 (.st 5 (.v 10) (.v 85)),
  yM 11 86]))) <|
  .seq (.seq (.ops ([
  yM 87 11,
  yO 88 (.bin .neq false (.v 87) (yI 0))])) <| mkC [1,2,4,8,10,11,25,26,27,88] <|
  .cond (.v 88) (.seq (.ops ([
   yM 89 11,
   yN (.st 1 (.v 2) (.v 89))])) <|
   .ret) (.nop)) <|
  .opsD [] ([
  yP 90 1 (.ld false 1 (.v 1)),
  yO 91 (.nc (.v 90)),
  yF 92 0 91,
  yF 93 0 92,
  yF 94 5 93,
  yP 95 94 (.ld false 1 (.v 94)),
  yM 96 8,
  yP 97 10 (.ld true 5 (.v 10)),
  yO 98 (.iaS 5 (.v 95) (.v 96)),
  yT 98 (.st 5 (.v 98) (.v 97))]))) <|
 .ops ([
 yO 99 (.bin .add false (.v 27) (yI 1)),
 yM 27 99])
noncomputable def il60l0:C:=il60l0b
theorem il60l0_go {P pol K I n f R e h}:wc P pol K I n f il60l0 R e h = wc P pol K I n f il60l0b R e h:=(fun x=>x) rfl
noncomputable def il60r0a:C :=
 .seq (.ops ([
 yM 3 17])) <|
 .ops ([
 yO 4 (.nw 5 (.agg [yZ,yZ,yS,yS,yS])),
 yN (.st 5 (.v 4) (.v 18))])
noncomputable def il60r0b:C :=
 .block 1 (.seq (.ops ([
  yL 19 1 1,
  yO 20 (.nc (.v 19)),
  yF 21 6 20,
  yL 22 1 21,
  yM 23 3,
  yO 24 (.iaS 1 (.v 22) (.v 23)),
  yL 25 1 24,
  yO 26 (.lenS (.v 25)),
  yO 27 (.mv (yI 0))])) <|
  .block 2 (.loop (some [1,2,4,25,26,27]) il60l0))
theorem il60r0a_eq:cCode Tryz.prog pol 60 100 0 (rfOf Tryz.prog 60 0).1 = il60r0a:=by kernel_rfl
theorem il60r0b_eq:cCode Tryz.prog pol 60 100 0 (rfOf Tryz.prog 60 0).2 = il60r0b:=by kernel_rfl
noncomputable def il60c:C :=
 .seq (.ops ([
 yO 1 (.bx false (.v 0)),
 yO 2 (.nw 1 yZ)])) <|
 .seq (.seq (.ops ([
 yL 12 1 1,
 yO 13 (.nc (.v 12)),
 yF 14 0 13,
 yD 15 6 14,
 yO 16 (.call (yC 31) [(.v 15)])])) <|
 .block 0 (.rangeF 100 (some [1,2]) (.v 16) [17,18] (rfOf Tryz.prog 60 0).1 (rfOf Tryz.prog 60 0).2)) <|
 .seq (.ops ([
 yN (.st 1 (.v 2) (yI 0))])) <|
 .ret
theorem il60_eq:cFn Tryz.prog pol 60 = some ⟨100,il60c,[(2,some (false,1))]⟩:=by kernel_rfl
noncomputable def il61r0a:C :=
 .seq (.ops ([
 yM 3 12])) <|
 .ops ([
 yO 4 (.nw 5 (.agg [yZ,yZ,yS,yS,yS])),
 yN (.st 5 (.v 4) (.v 13))])
noncomputable def il61r0b:C :=
 .block 1 (.seq (.ops ([
  yD 15 5 4,
  yO 16 (.call (yC 102) [(.v 15)]),
  yM 14 16,
  yO 17 (.ex (.v 14) 0),
  yO 18 (.ex (.v 14) 1),
  yO 5 (.nw 5 (.agg [yZ,yZ,yS,yS,yS])),
  yN (.st 5 (.v 5) (.v 17)),
  yM 6 18])) <|
  .seq (.seq (.ops ([
  yM 19 6,
  yO 20 (.bin .neq false (.v 19) (yI 0))])) <|
  .cond (.v 20) (.seq (.ops ([
   yM 21 6,
   yN (.st 1 (.v 2) (.v 21))])) <|
   .ret) (.nop)) <|
  .opsD [] ([
  yP 22 1 (.ld false 1 (.v 1)),
  yO 23 (.nc (.v 22))] ++ mkL [3,5,23] ([
  yF 24 0 23,
  yF 25 0 24,
  yF 26 5 25,
  yP 27 26 (.ld false 1 (.v 26)),
  yM 28 3,
  yP 29 5 (.ld true 5 (.v 5)),
  yO 30 (.iaS 5 (.v 27) (.v 28)),
  yT 30 (.st 5 (.v 30) (.v 29))])))
theorem il61r0a_eq:cCode Tryz.prog pol 61 31 0 (rfOf Tryz.prog 61 0).1 = il61r0a:=by kernel_rfl
theorem il61r0b_eq:cCode Tryz.prog pol 61 31 0 (rfOf Tryz.prog 61 0).2 = il61r0b:=by kernel_rfl
noncomputable def il61c:C :=
 .seq (.ops ([
 yO 1 (.bx false (.v 0)),
 yO 2 (.nw 1 yZ)])) <|
 .seq (.seq (.ops ([
 yL 7 1 1,
 yO 8 (.nc (.v 7)),
 yF 9 0 8,
 yD 10 6 9,
 yO 11 (.call (yC 31) [(.v 10)])])) <|
 .block 0 (.rangeF 31 (some [1,2]) (.v 11) [12,13] (rfOf Tryz.prog 61 0).1 (rfOf Tryz.prog 61 0).2)) <|
 .seq (.ops ([
 yN (.st 1 (.v 2) (yI 0))])) <|
 .ret
theorem il61_eq:cFn Tryz.prog pol 61 = some ⟨31,il61c,[(2,some (false,1))]⟩:=by kernel_rfl
noncomputable def il62c:C :=
 .seq (.ops ([
 yO 2 (.bx false (.v 0)),
 yO 3 (.bx false (.v 1)),
 yO 4 (.nw 5 (.agg [yZ,yZ,yS,yS,yS])),
 yO 5 (.mv (yI 0))])) <|
 .seq (.seq (.ops ([
 yD 7 5 2,
 yO 8 (.call (yC 77) [(.v 7)]),
 yM 6 8])) <|
 .seq (.ops ([
 yM 9 6,
 yO 10 (.bin .neq false (.v 9) (yI 0))])) <|
 .cond (.v 10) (.seq (.ops ([
  yO 11 (.bd [yZ,yZ,yS,yS,yS] []),
  yM 12 6,
  yN (.st 5 (.v 4) (.v 11)),
  yM 5 12])) <|
  .ret) (.nop)) <|
 .seq (.seq (.ops ([
 yL 13 1 3] ++ mkL [2,3,4,13] ([
 yO 14 (.bin .lss false (.v 13) (yI 0)),
 yM 15 14,
 yG 16 15 false (.ld false 1 (.v 3)),
 yG 17 15 false (.fa 2 (.v 2)),
 yG 18 15 false (.ld false 1 (.v 17)),
 yG 19 15 false (.lenS (.v 18)),
 yG 20 15 false (.bin .geq false (.v 16) (.v 19)),
 yO 21 (.pk (.v 15) (yB true) (.v 20))]))) <|
 .cond (.v 21) (.seq (.ops ([
  yO 22 (.bd [yZ,yZ,yS,yS,yS] []),
  yN (.st 5 (.v 4) (.v 22)),
  yO 5 (.mv (yI 2))])) <|
  .ret) (.nop)) <|
 .seq (.ops ([
 yD 23 5 2,
 yO 24 (.fn 103 [] [(.v 3)]),
 yO 25 (.call (yC 78) [(.v 23),(.v 24)])] ++ mkL [4,25] ([
 yN (.st 5 (.v 4) (.v 25)),
 yO 5 (.mv (yI 0))]))) <|
 .ret
theorem il62_eq:cFn Tryz.prog pol 62 = some ⟨26,il62c,[(4,some (true,5)),(5,none)]⟩:=by kernel_rfl
noncomputable def il67l0b:C :=
 .seq (.ops ([
 yO 20 (.bin .lss false (.v 19) (yI 4))])) <|
 .seq (.cond (.v 20) (.nop) (.exit 2)) <|
 .seq (.block 3 (.seq (.ops ([
  yO 21 (.ixA false 1 4 1 (.v 18) (.v 19)),
  yM 6 21])) <|
  .seq (.ops ([
  yM 22 6,
  yM 23 4,
  yO 24 (.call (.v 22) [(.v 23)]),
  yO 25 (.nt (.v 24))])) <|
  .cond (.v 25) (.seq (.ops ([
   yO 2 (.mv (yB false))])) <|
   .ret) (.nop))) <|
 .ops ([
 yO 26 (.bin .add false (.v 19) (yI 1)),
 yM 19 26])
noncomputable def il67l0:C:=il67l0b
theorem il67l0_go {P pol K I n f R e h}:wc P pol K I n f il67l0 R e h = wc P pol K I n f il67l0b R e h:=(fun x=>x) rfl
noncomputable def il67l1b:C :=
 .seq (.ops ([
 yO 16 (.bin .lss false (.v 15) (.v 14))])) <|
 .seq (.cond (.v 16) (.nop) (.exit 0)) <|
 .seq (.block 1 (.seq (.ops ([
  yM 17 15,
  yM 4 17])) <|
  .seq (.ops ([
  yD 18 4 3,
  yO 19 (.mv (yI 0))])) <|
  .block 2 (.loop (some [3,4,14,15,18,19]) il67l0))) <|
 .ops ([
 yO 27 (.bin .add false (.v 15) (yI 1)),
 yM 15 27])
noncomputable def il67l1:C:=il67l1b
theorem il67l1_go {P pol K I n f R e h}:wc P pol K I n f il67l1 R e h = wc P pol K I n f il67l1b R e h:=(fun x=>x) rfl
noncomputable def il67c:C :=
 .seq (.ops ([
 yO 1 (.bx false (.v 0)),
 yO 2 (.mv (yB false))])) <|
 .seq (.ops ([
 yO 7 (.fn 105 [] [(.v 1)]),
 yO 8 (.fn 107 [] [(.v 1)]),
 yO 9 (.fn 108 [] [(.v 1)]),
 yO 10 (.fn 109 [] [(.v 1)]),
 yO 11 (.bd [(.sc .nilFunc),(.sc .nilFunc),(.sc .nilFunc),(.sc .nilFunc)] [(0,1,(.v 7)),(1,1,(.v 8)),(2,1,(.v 9)),(3,1,(.v 10))]),
 yO 3 (.nw 4 (.agg [(.sc .nilFunc),(.sc .nilFunc),(.sc .nilFunc),(.sc .nilFunc)])),
 yN (.st 4 (.v 3) (.v 11))])) <|
 .seq (.seq (.ops ([
 yF 12 2 1,
 yL 13 1 12,
 yO 14 (.lenS (.v 13)),
 yO 15 (.mv (yI 0))])) <|
 .block 0 (.loop (some [3,14,15]) il67l1)) <|
 .seq (.ops ([
 yO 2 (.mv (yB true))])) <|
 .ret
theorem il67_eq:cFn Tryz.prog pol 67 = some ⟨28,il67c,[(2,none)]⟩:=by kernel_rfl
noncomputable def il68c:C :=
 .seq (.ops ([
 yO 4 (.mv (yB false))])) <|
 .seq (.ops ([
 yM 5 0,
 yM 6 1,
 yO 7 (.call (yC 110) [(.v 5),(.v 6)]),
 yO 8 (.bin .geq false (.v 7) (yI 0)),
 yM 4 8])) <|
 .ret
theorem il68_eq:cFn Tryz.prog pol 68 = some ⟨9,il68c,[(4,none)]⟩:=by kernel_rfl
noncomputable def il69l0b:C :=
 .seq (.ops ([
 yO 24 (.bin .lss false (.v 23) (.v 22))])) <|
 .seq (.cond (.v 24) (.nop) (.exit 2)) <|
 .seq (.block 3 (.seq (.ops ([
  yM 25 23,
  yO 26 (.iaS 4 (.v 21) (.v 23)),
  yD 27 4 26,
  yO 9 (.nw 4 (.agg [yZ,yZ,yZ,yZ])),
  yM 8 25,
  yN (.st 4 (.v 9) (.v 27))])) <|
  .seq (.opsD [] ([
  yM 28 8,
  yO 29 (.iaA 24 1 (.v 5) (.v 28)),
  yP 30 29 (.ld false 1 (.v 29)),
  yO 31 (.nt (.v 30)),
  yM 32 31,
  yG 33 32 true (.mv (.v 7)),
  yG 34 32 true (.fa 0 (.v 9))] ++ mkL [3,5,7,9,17,18,21,22,23,32,33,34] ([
  ⟨some 35,some (32,true),none,.objs [(.v 34)],.ld false 1 (.v 34)⟩,
  yG 36 32 true (.iaS 1 (.v 33) (.v 35)),
  ⟨some 37,some (32,true),none,.objs [(.v 36)],.ld false 1 (.v 36)⟩,
  yG 38 32 true (.mv (.v 7)),
  yG 39 32 true (.fa 1 (.v 9)),
  ⟨some 40,some (32,true),none,.objs [(.v 39)],.ld false 1 (.v 39)⟩,
  yG 41 32 true (.iaS 1 (.v 38) (.v 40)),
  ⟨some 42,some (32,true),none,.objs [(.v 41)],.ld false 1 (.v 41)⟩,
  yG 43 32 true (.bin .neq true (.v 37) (.v 42)),
  yO 44 (.pk (.v 32) (.v 43) (yB false))]))) <|
  .cond (.v 44) (.opsD [(5,7)] ([
   yM 45 7,
   yF 46 0 9,
   yP 47 46 (.ld false 1 (.v 46)),
   yM 48 7] ++ mkL [3,5,7,9,17,18,21,22,23,45,47,48] ([
   yF 49 1 9,
   yP 50 49 (.ld false 1 (.v 49)),
   yO 51 (.iaS 1 (.v 45) (.v 47)),
   yT 51 (.st 1 (.v 51) (yB true)),
   yO 52 (.iaS 1 (.v 48) (.v 50)),
   yT 52 (.st 1 (.v 52) (yB true))]))) (.nop))) <|
 .ops ([
 yO 53 (.bin .add false (.v 23) (yI 1)),
 yM 23 53])
noncomputable def il69l0:C:=il69l0b
theorem il69l0_go {P pol K I n f R e h}:wc P pol K I n f il69l0 R e h = wc P pol K I n f il69l0b R e h:=(fun x=>x) rfl
noncomputable def il69l1b:C :=
 .seq (.ops ([
 yO 19 (.bin .lss false (.v 18) (.v 17))])) <|
 .seq (.cond (.v 19) (.nop) (.exit 0)) <|
 .seq (.block 1 (.seq (.ops ([
  yF 20 2 3,
  yL 21 1 20,
  yO 22 (.lenS (.v 21)),
  yO 23 (.mv (yI 0))])) <|
  .block 2 (.loop (some [3,5,7,17,18,21,22,23]) il69l0))) <|
 .ops ([
 yO 54 (.bin .add false (.v 18) (yI 1)),
 yM 18 54])
noncomputable def il69l1:C:=il69l1b
theorem il69l1_go {P pol K I n f R e h}:wc P pol K I n f il69l1 R e h = wc P pol K I n f il69l1b R e h:=(fun x=>x) rfl
noncomputable def il69c:C :=
 .seq (.ops ([
 yO 3 (.bx false (.v 0)),
 yO 5 (.bx false (.v 2)),
 yO 6 (.mv (.c yS))])) <|
 .seq (.ops ([
 yF 10 0 3,
 yL 11 1 10,
 yO 12 (.raw (opOf Tryz.prog 69 1 2)),
 yM 7 12])) <|
 .seq (.ops ([
 yM 13 7,
 yM 14 1,
 yO 15 (.iaS 1 (.v 13) (.v 14)),
 yN (.st 1 (.v 15) (yB true))])) <|
 .seq (.seq (.ops ([
 yF 16 0 3,
 yL 17 1 16,
 yO 18 (.mv (yI 0))])) <| mkC [3,5,7,17,18] <|
 .block 0 (.loop (some [3,5,7,17,18]) il69l1)) <|
 .seq (.ops ([
 yM 55 7,
 yM 6 55])) <|
 .ret
theorem il69_eq:cFn Tryz.prog pol 69 = some ⟨56,il69c,[(6,none)]⟩:=by kernel_rfl
theorem raw69_1_2 {e:FEnv} {h:Heap}:iStep Tryz.prog pol 69 e h (.raw (opOf Tryz.prog 69 1 2)) = mkSl 1 1 (.sc (.bool false)) h (asNat (Src.get e (.v 11))) (asNat (Src.get e (.v 11))):=raw_makeSlice (t:=22) (l:=(.tmp 11)) (c:=(.tmp 11)) (elem:=4) (by kernel_rfl) (by kernel_rfl) (by kernel_rfl) (by kernel_rfl) (by kernel_rfl) (by kernel_rfl) (by kernel_rfl)
noncomputable def il70c:C :=
 .seq (.ops ([
 yO 2 (.mv (.c yS))])) <|
 .seq (.seq (.ops ([
 yM 3 0,
 yO 4 (.raw (opOf Tryz.prog 70 1 1))])) <|
 .cond (.v 4) (.seq (.ops ([
  yO 2 (.mv (.c yS))])) <|
  .ret) (.nop)) <|
 .seq (.ops ([
 yO 5 (.bs false 1 yZ 0 []),
 yM 6 0,
 yO 7 (.app 1 8 (.v 5) (.v 6)),
 yM 2 7])) <|
 .ret
theorem il70_eq:cFn Tryz.prog pol 70 = some ⟨8,il70c,[(2,none)]⟩:=by kernel_rfl
theorem raw70_1_1 {e:FEnv} {h:Heap}:iStep Tryz.prog pol 70 e h (.raw (opOf Tryz.prog 70 1 1)) = vOf h (binE Tryz.prog false 26 (.tmp 3) (.const (.slice none 0 0)) (Src.get e (.v 3)) (Src.get e (.c (.sc (.slice none 0 0))))):=raw_eql (x:=(.tmp 3)) (y:=(.const (.slice none 0 0))) (s:=26) (by kernel_rfl)
noncomputable def il71c:C :=
 .seq (.ops ([
 yO 2 (.mv (.c yS))])) <|
 .seq (.seq (.ops ([
 yM 3 0,
 yO 4 (.raw (opOf Tryz.prog 71 1 1))])) <|
 .cond (.v 4) (.seq (.ops ([
  yO 2 (.mv (.c yS))])) <|
  .ret) (.nop)) <|
 .seq (.ops ([
 yO 5 (.bs false 1 (.sc (.bool false)) 0 []),
 yM 6 0,
 yO 7 (.app 1 1 (.v 5) (.v 6)),
 yM 2 7])) <|
 .ret
theorem il71_eq:cFn Tryz.prog pol 71 = some ⟨8,il71c,[(2,none)]⟩:=by kernel_rfl
theorem raw71_1_1 {e:FEnv} {h:Heap}:iStep Tryz.prog pol 71 e h (.raw (opOf Tryz.prog 71 1 1)) = vOf h (binE Tryz.prog false 22 (.tmp 3) (.const (.slice none 0 0)) (Src.get e (.v 3)) (Src.get e (.c (.sc (.slice none 0 0))))):=raw_eql (x:=(.tmp 3)) (y:=(.const (.slice none 0 0))) (s:=22) (by kernel_rfl)
noncomputable def il72c:C :=
 .seq (.ops ([
 yO 2 (.mv (.c yS))])) <|
 .seq (.seq (.ops ([
 yM 3 0,
 yO 4 (.raw (opOf Tryz.prog 72 1 1))])) <|
 .cond (.v 4) (.seq (.ops ([
  yO 2 (.mv (.c yS))])) <|
  .ret) (.nop)) <|
 .seq (.ops ([
 yO 5 (.bs false 4 (.agg [yZ,yZ,yZ,yZ]) 0 []),
 yM 6 0,
 yO 7 (.app 4 32 (.v 5) (.v 6)),
 yM 2 7])) <|
 .ret
theorem il72_eq:cFn Tryz.prog pol 72 = some ⟨8,il72c,[(2,none)]⟩:=by kernel_rfl
theorem raw72_1_1 {e:FEnv} {h:Heap}:iStep Tryz.prog pol 72 e h (.raw (opOf Tryz.prog 72 1 1)) = vOf h (binE Tryz.prog false 23 (.tmp 3) (.const (.slice none 0 0)) (Src.get e (.v 3)) (Src.get e (.c (.sc (.slice none 0 0))))):=raw_eql (x:=(.tmp 3)) (y:=(.const (.slice none 0 0))) (s:=23) (by kernel_rfl)
noncomputable def il73c:C :=
 .seq (.ops ([
 yO 2 (.mv (.c yS))])) <|
 .seq (.seq (.ops ([
 yM 3 0,
 yO 4 (.raw (opOf Tryz.prog 73 1 1))])) <|
 .cond (.v 4) (.seq (.ops ([
  yO 2 (.mv (.c yS))])) <|
  .ret) (.nop)) <|
 .seq (.ops ([
 yO 5 (.bs false 8 (.agg [(.sc (.bool false)),yZ,yZ,yZ,yZ,yZ,yZ,yZ]) 0 []),
 yM 6 0,
 yO 7 (.app 8 64 (.v 5) (.v 6)),
 yM 2 7])) <|
 .ret
theorem il73_eq:cFn Tryz.prog pol 73 = some ⟨8,il73c,[(2,none)]⟩:=by kernel_rfl
theorem raw73_1_1 {e:FEnv} {h:Heap}:iStep Tryz.prog pol 73 e h (.raw (opOf Tryz.prog 73 1 1)) = vOf h (binE Tryz.prog false 63 (.tmp 3) (.const (.slice none 0 0)) (Src.get e (.v 3)) (Src.get e (.c (.sc (.slice none 0 0))))):=raw_eql (x:=(.tmp 3)) (y:=(.const (.slice none 0 0))) (s:=63) (by kernel_rfl)
noncomputable def il74l0b:C :=
 .seq (.ops ([
 yO 10 (.bin .lss false (.v 9) (.v 8))])) <|
 .seq (.cond (.v 10) (.nop) (.exit 0)) <|
 .seq (.block 1 (.seq (.ops ([
  yM 11 9,
  yO 12 (.iaS 5 (.v 7) (.v 9)),
  yD 13 5 12,
  yO 4 (.nw 5 (.agg [yZ,yZ,yS,yS,yS])),
  yM 3 11,
  yN (.st 5 (.v 4) (.v 13))])) <|
  .seq (.ops ([
  yF 14 0 1,
  yF 15 0 14,
  yF 16 1 15,
  yL 17 1 16,
  yM 18 3,
  yO 19 (.iaS 1 (.v 17) (.v 18)),
  yL 20 1 19] ++ mkL [0,1,3,4,7,8,9,20] ([
  yO 21 (.nt (.v 20)),
  yM 22 21,
  yG 23 22 true (.mv (.v 0)),
  yG 24 22 true (.mv (.v 3)),
  yG 25 22 true (.ld true 5 (.v 4)),
  yG 26 22 true (.call (.v 23) [(.v 24),(.v 25)]),
  yG 27 22 true (.nt (.v 26)),
  yO 28 (.pk (.v 22) (.v 27) (yB false))]))) <|
  .cond (.v 28) (.ret) (.nop))) <|
 .ops ([
 yO 29 (.bin .add false (.v 9) (yI 1)),
 yM 9 29])
noncomputable def il74l0:C:=il74l0b
theorem il74l0_go {P pol K I n f R e h}:wc P pol K I n f il74l0 R e h = wc P pol K I n f il74l0b R e h:=(fun x=>x) rfl
noncomputable def il74c:C :=
 .seq (.ops ([
 yF 5 0 1,
 yF 6 5 5,
 yL 7 1 6,
 yO 8 (.lenS (.v 7)),
 yO 9 (.mv (yI 0))])) <|
 .block 0 (.loop (some [0,1,7,8,9]) il74l0)
theorem il74_eq:cFn Tryz.prog pol 74 = some ⟨30,il74c,[]⟩:=by kernel_rfl
noncomputable def il75c:C :=
 .seq (.ops ([
 yO 2 (.bx false (.v 0)),
 yO 4 (.mv (.c yS))])) <|
 .seq (.ops ([
 yF 8 0 2,
 yF 9 0 8,
 yD 10 3 9,
 yM 11 1,
 yO 12 (.call (yC 111) [(.v 10),(.v 11)]),
 yM 7 12,
 yO 13 (.ex (.v 7) 0),
 yO 14 (.ex (.v 7) 1),
 yM 5 13,
 yM 6 14])) <|
 .seq (.ops ([
 yM 15 5,
 yM 4 15])) <|
 .ret
theorem il75_eq:cFn Tryz.prog pol 75 = some ⟨16,il75c,[(4,none)]⟩:=by kernel_rfl
noncomputable def il76c:C :=
 .seq (.ops ([
 yO 2 (.bx false (.v 0)),
 yO 4 (.mv (yI 0))])) <|
 .seq (.ops ([
 yF 8 0 2,
 yF 9 0 8,
 yD 10 3 9,
 yM 11 1,
 yO 12 (.call (yC 112) [(.v 10),(.v 11)]),
 yM 7 12,
 yO 13 (.ex (.v 7) 0),
 yO 14 (.ex (.v 7) 1),
 yM 5 13,
 yM 6 14])) <|
 .seq (.ops ([
 yM 15 5,
 yM 4 15])) <|
 .ret
theorem il76_eq:cFn Tryz.prog pol 76 = some ⟨16,il76c,[(4,none)]⟩:=by kernel_rfl
noncomputable def il77l0b:C :=
 .seq (.ops ([
 yO 37 (.bin .lss false (.v 36) (.v 35))])) <|
 .seq (.cond (.v 37) (.nop) (.exit 0)) <|
 .seq (.block 1 (.seq (.ops ([
  yM 38 36,
  yO 39 (.iaS 1 (.v 34) (.v 36)),
  yL 40 1 39,
  yM 4 38,
  yM 5 40])) <|
  .seq (.seq (.ops ([
  yM 41 5,
  yO 42 (.bin .lss false (.v 41) (yI 0)),
  yM 43 42,
  yG 44 43 false (.mv (.v 5)),
  yG 45 43 false (.bin .geq false (.v 44) (yI 48)),
  yO 46 (.pk (.v 43) (yB true) (.v 45)),
  yM 47 46,
  yG 48 47 false (.mv (.v 4))] ++ mkL [1,4,5,34,35,36,47,48] ([
  yG 49 47 false (.bin .gtr false (.v 48) (yI 0)),
  yG 50 47 false (.mv (.v 49)),
  yG 51 50 true (.mv (.v 5)),
  yG 52 50 true (.fa 2 (.v 1)),
  yG 53 50 true (.ld false 1 (.v 52)),
  yG 54 50 true (.mv (.v 4)),
  yG 55 50 true (.bin .sub false (.v 54) (yI 1)),
  yG 56 50 true (.iaS 1 (.v 53) (.v 55)),
  yG 57 50 true (.ld false 1 (.v 56)),
  yG 58 50 true (.bin .leq false (.v 51) (.v 57)),
  yG 59 47 false (.pk (.v 50) (.v 58) (yB false)),
  yO 60 (.pk (.v 47) (yB true) (.v 59))]))) <|
  .cond (.v 60) (.seq (.ops ([
   yO 2 (.mv (yI 290))])) <|
   .ret) (.nop)) <|
  .seq (.seq (.ops ([
  yF 61 3 1] ++ mkL [1,4,34,35,36,61] ([
  yL 62 1 61,
  yM 63 4,
  yO 64 (.iaS 1 (.v 62) (.v 63)),
  yL 65 1 64,
  yO 66 (.bin .lss false (.v 65) (yI 1)),
  yM 67 66,
  yG 68 67 false (.fa 3 (.v 1)),
  yG 69 67 false (.ld false 1 (.v 68)),
  yG 70 67 false (.mv (.v 4)),
  yG 71 67 false (.iaS 1 (.v 69) (.v 70)),
  yG 72 67 false (.ld false 1 (.v 71)),
  yG 73 67 false (.bin .gtr false (.v 72) (yI 1000)),
  yO 74 (.pk (.v 67) (yB true) (.v 73))]))) <|
  .cond (.v 74) (.seq (.ops ([
   yO 2 (.mv (yI 290))])) <|
   .ret) (.nop)) <| mkC [1,4,34,35,36] <|
  .seq (.ops ([
  yF 75 4 1,
  yL 76 1 75,
  yM 77 4,
  yO 78 (.iaS 8 (.v 76) (.v 77)),
  yD 79 8 78,
  yO 6 (.nw 8 (.agg [(.sc (.bool false)),yZ,yZ,yZ,yZ,yZ,yZ,yZ])),
  yN (.st 8 (.v 6) (.v 79))])) <|
  .seq (.ops ([
  yF 80 0 6,
  yL 81 1 80,
  yM 82 81,
  yG 83 82 true (.fa 1 (.v 6)),
  yG 84 82 true (.ld true 7 (.v 83)),
  yG 85 82 true (.call (yC 114) [(.v 84)]),
  yG 86 82 true (.bin .neq false (.v 85) (yI 0))] ++ mkL [1,6,34,35,36,82,86] ([
  yO 87 (.pk (.v 82) (.v 86) (yB false)),
  yM 88 87,
  yG 89 88 false (.fa 0 (.v 6)),
  yG 90 88 false (.ld false 1 (.v 89)),
  yG 91 88 false (.nt (.v 90)),
  yG 92 88 false (.mv (.v 91)),
  yG 93 92 true (.ld true 8 (.v 6)),
  yG 94 92 true (.bd [(.sc (.bool false)),yZ,yZ,yZ,yZ,yZ,yZ,yZ] []),
  yG 95 92 true (.raw (opOf Tryz.prog 77 14 15)),
  yG 96 88 false (.pk (.v 92) (.v 95) (yB false)),
  yO 97 (.pk (.v 88) (yB true) (.v 96))]))) <|
  .cond (.v 97) (.seq (.ops ([
   yO 2 (.mv (yI 290))])) <|
   .ret) (.nop))) <|
 .ops ([
 yO 98 (.bin .add false (.v 36) (yI 1)),
 yM 36 98])
noncomputable def il77l0:C:=il77l0b
theorem il77l0_go {P pol K I n f R e h}:wc P pol K I n f il77l0 R e h = wc P pol K I n f il77l0b R e h:=(fun x=>x) rfl
noncomputable def il77c:C :=
 .seq (.ops ([
 yO 1 (.bx false (.v 0)),
 yO 2 (.mv (yI 0))])) <|
 .seq (.ops ([
 yF 7 2 1,
 yL 8 1 7,
 yO 9 (.lenS (.v 8)),
 yM 3 9])) <|
 .seq (.seq (.ops ([
 yM 10 3,
 yO 11 (.bin .gtr false (.v 10) (yI 24)),
 yM 12 11,
 yG 13 12 false (.fa 3 (.v 1)),
 yG 14 12 false (.ld false 1 (.v 13)),
 yG 15 12 false (.lenS (.v 14)),
 yG 16 12 false (.mv (.v 3)),
 yG 17 12 false (.bin .neq false (.v 15) (.v 16))] ++ mkL [1,3,12,17] ([
 yO 18 (.pk (.v 12) (yB true) (.v 17)),
 yM 19 18,
 yG 20 19 false (.fa 4 (.v 1)),
 yG 21 19 false (.ld false 1 (.v 20)),
 yG 22 19 false (.lenS (.v 21)),
 yG 23 19 false (.mv (.v 3)),
 yG 24 19 false (.bin .neq false (.v 22) (.v 23)),
 yO 25 (.pk (.v 19) (yB true) (.v 24))]))) <|
 .cond (.v 25) (.seq (.ops ([
  yO 2 (.mv (yI 290))])) <|
  .ret) (.nop)) <|
 .seq (.seq (.ops ([
 yF 26 0 1,
 yD 27 2 26,
 yF 28 0 1,
 yD 29 2 28,
 yO 30 (.bd [yZ,yZ,yZ,yZ,yZ,yZ] [(0,2,(.v 27)),(3,2,(.v 29))])] ++ mkL [1,30] ([
 yO 31 (.call (yC 113) [(.v 30)]),
 yO 32 (.bin .neq false (.v 31) (yI 0))]))) <|
 .cond (.v 32) (.seq (.ops ([
  yO 2 (.mv (yI 290))])) <|
  .ret) (.nop)) <|
 .seq (.seq (.ops ([
 yF 33 2 1,
 yL 34 1 33,
 yO 35 (.lenS (.v 34)),
 yO 36 (.mv (yI 0))])) <|
 .block 0 (.loop (some [1,34,35,36]) il77l0)) <|
 .seq (.ops ([
 yO 2 (.mv (yI 0))])) <|
 .ret
theorem il77_eq:cFn Tryz.prog pol 77 = some ⟨99,il77c,[(2,none)]⟩:=by kernel_rfl
theorem raw77_14_15 {e:FEnv} {h:Heap}:iStep Tryz.prog pol 77 e h (.raw (opOf Tryz.prog 77 14 15)) = vOf h (binE Tryz.prog true 89 (.tmp 93) (.tmp 94) (Src.get e (.v 93)) (Src.get e (.v 94))):=raw_neq (x:=(.tmp 93)) (y:=(.tmp 94)) (s:=89) (by kernel_rfl)
noncomputable def il78c:C :=
 .seq (.ops ([
 yO 2 (.bx false (.v 0)),
 yO 4 (.nw 5 (.agg [yZ,yZ,yS,yS,yS]))])) <|
 .seq (.ops ([
 yO 5 (.mv (yC 115))])) <|
 .seq (.opsD [(1,5),(5,7),(1,9),(5,11),(9,11),(1,13)] ([
 yF 6 0 2,
 yP 7 6 (.ld true 2 (.v 6)),
 yF 8 2 2,
 yP 9 8 (.ld false 1 (.v 8)),
 yM 10 5,
 yQ 11 (yC 116) [(.v 9),(.v 10)],
 yF 12 3 2,
 yP 13 12 (.ld false 1 (.v 12)),
 yM 14 5,
 yQ 15 (yC 116) [(.v 13),(.v 14)],
 yF 16 4 2] ++ mkL [1,4,7,11,15,16] ([
 yP 17 16 (.ld false 1 (.v 16)),
 yM 18 1,
 yQ 19 (yC 117) [(.v 17),(.v 18)],
 yO 20 (.bd [yZ,yZ,yS,yS,yS] [(0,2,(.v 7)),(2,1,(.v 11)),(3,1,(.v 15)),(4,1,(.v 19))]),
 yT 4 (.st 5 (.v 4) (.v 20))]))) <|
 .ret
theorem il78_eq:cFn Tryz.prog pol 78 = some ⟨21,il78c,[(4,some (true,5))]⟩:=by kernel_rfl
noncomputable def il79c:C :=
 .nop
theorem il79_eq:cFn Tryz.prog pol 79 = some ⟨2,il79c,[]⟩:=by kernel_rfl
noncomputable def il80c:C :=
 .seq (.ops ([
 yO 2 (.bx false (.v 0)),
 yO 4 (.mv (yB false))])) <|
 .seq (.ops ([
 yM 5 1,
 yO 6 (.bin .geq false (.v 5) (yI 0)),
 yM 7 6,
 yG 8 7 true (.mv (.v 1)),
 yG 9 7 true (.fa 0 (.v 2)),
 yG 10 7 true (.ld false 1 (.v 9)),
 yG 11 7 true (.bin .lss false (.v 8) (.v 10)),
 yO 12 (.pk (.v 7) (.v 11) (yB false)),
 yM 4 12])) <|
 .ret
theorem il80_eq:cFn Tryz.prog pol 80 = some ⟨13,il80c,[(4,none)]⟩:=by kernel_rfl
noncomputable def il81l0b:C :=
 .seq (.seq (.ops ([
 yM 6 5,
 yM 7 0,
 yO 8 (.lenS (.v 7)),
 yO 9 (.bin .lss false (.v 6) (.v 8))])) <|
 .cond (.v 9) (.nop) (.exit 0)) <|
 .seq (.block 1 (.seq (.ops ([
  yM 12 0,
  yM 13 5,
  yO 14 (.iaS 1 (.v 12) (.v 13)),
  yL 15 1 14,
  yM 16 1,
  yO 17 (.bin .eql false (.v 15) (.v 16))])) <|
  .cond (.v 17) (.seq (.ops ([
   yO 4 (.mv (yB true))])) <|
   .ret) (.nop))) <|
 .ops ([
 yM 10 5,
 yO 11 (.bin .add false (.v 10) (yI 1)),
 yM 5 11])
noncomputable def il81l0:C:=il81l0b
theorem il81l0_go {P pol K I n f R e h}:wc P pol K I n f il81l0 R e h = wc P pol K I n f il81l0b R e h:=(fun x=>x) rfl
noncomputable def il81c:C :=
 .seq (.ops ([
 yO 4 (.mv (yB false))])) <|
 .seq (.seq (.ops ([
 yO 5 (.mv (yI 0))])) <|
 .block 0 (.loop (some [0,1,5]) il81l0)) <|
 .seq (.ops ([
 yO 4 (.mv (yB false))])) <|
 .ret
theorem il81_eq:cFn Tryz.prog pol 81 = some ⟨18,il81c,[(4,none)]⟩:=by kernel_rfl
noncomputable def il82l0b:C :=
 .seq (.seq (.ops ([
 yM 30 5,
 yF 31 1 2,
 yL 32 1 31,
 yO 33 (.lenS (.v 32)),
 yO 34 (.bin .lss false (.v 30) (.v 33))])) <|
 .cond (.v 34) (.nop) (.exit 0)) <|
 .seq (.block 1 (.seq (.opsD [] ([
  yF 37 1 2,
  yP 38 37 (.ld false 1 (.v 37)),
  yM 39 5,
  yO 40 (.iaS 1 (.v 38) (.v 39)),
  yP 41 40 (.ld false 1 (.v 40)),
  yF 42 1 3,
  yP 43 42 (.ld false 1 (.v 42)),
  yM 44 5,
  yO 45 (.iaS 1 (.v 43) (.v 44))] ++ mkL [2,3,5,41,45] ([
  yP 46 45 (.ld false 1 (.v 45)),
  yO 47 (.bin .neq true (.v 41) (.v 46))]))) <|
  .cond (.v 47) (.seq (.ops ([
   yO 4 (.mv (yB false))])) <|
   .ret) (.nop))) <|
 .ops ([
 yM 35 5,
 yO 36 (.bin .add false (.v 35) (yI 1)),
 yM 5 36])
noncomputable def il82l0:C:=il82l0b
theorem il82l0_go {P pol K I n f R e h}:wc P pol K I n f il82l0 R e h = wc P pol K I n f il82l0b R e h:=(fun x=>x) rfl
noncomputable def il82l1b:C :=
 .seq (.seq (.ops ([
 yM 48 6,
 yF 49 2 2,
 yL 50 1 49,
 yO 51 (.lenS (.v 50)),
 yO 52 (.bin .lss false (.v 48) (.v 51))])) <|
 .cond (.v 52) (.nop) (.exit 2)) <|
 .seq (.block 3 (.seq (.opsD [] ([
  yF 55 2 2,
  yP 56 55 (.ld false 1 (.v 55)),
  yM 57 6,
  yO 58 (.iaS 4 (.v 56) (.v 57)),
  yP 59 58 (.ld true 4 (.v 58)),
  yF 60 2 3,
  yP 61 60 (.ld false 1 (.v 60)),
  yM 62 6,
  yO 63 (.iaS 4 (.v 61) (.v 62))] ++ mkL [2,3,6,59,63] ([
  yP 64 63 (.ld true 4 (.v 63)),
  yO 65 (.raw (opOf Tryz.prog 82 11 10))]))) <|
  .cond (.v 65) (.seq (.ops ([
   yO 4 (.mv (yB false))])) <|
   .ret) (.nop))) <|
 .ops ([
 yM 53 6,
 yO 54 (.bin .add false (.v 53) (yI 1)),
 yM 6 54])
noncomputable def il82l1:C:=il82l1b
theorem il82l1_go {P pol K I n f R e h}:wc P pol K I n f il82l1 R e h = wc P pol K I n f il82l1b R e h:=(fun x=>x) rfl
noncomputable def il82c:C :=
 .seq (.ops ([
 yO 2 (.bx false (.v 0)),
 yO 3 (.bx false (.v 1)),
 yO 4 (.mv (yB false))])) <|
 .seq (.seq (.ops ([
 yF 7 0 2,
 yL 8 1 7,
 yF 9 0 3,
 yL 10 1 9,
 yO 11 (.bin .neq false (.v 8) (.v 10)),
 yM 12 11,
 yG 13 12 false (.fa 1 (.v 2)),
 yG 14 12 false (.ld false 1 (.v 13)),
 yG 15 12 false (.lenS (.v 14)),
 yG 16 12 false (.fa 1 (.v 3)),
 yG 17 12 false (.ld false 1 (.v 16))] ++ mkL [2,3,12,15,17] ([
 yG 18 12 false (.lenS (.v 17)),
 yG 19 12 false (.bin .neq false (.v 15) (.v 18)),
 yO 20 (.pk (.v 12) (yB true) (.v 19)),
 yM 21 20,
 yG 22 21 false (.fa 2 (.v 2)),
 yG 23 21 false (.ld false 1 (.v 22)),
 yG 24 21 false (.lenS (.v 23)),
 yG 25 21 false (.fa 2 (.v 3)),
 yG 26 21 false (.ld false 1 (.v 25)),
 yG 27 21 false (.lenS (.v 26)),
 yG 28 21 false (.bin .neq false (.v 24) (.v 27)),
 yO 29 (.pk (.v 21) (yB true) (.v 28))]))) <|
 .cond (.v 29) (.seq (.ops ([
  yO 4 (.mv (yB false))])) <|
  .ret) (.nop)) <|
 .seq (.seq (.ops ([
 yO 5 (.mv (yI 0))])) <| mkC [2,3,5] <|
 .block 0 (.loop (some [2,3,5]) il82l0)) <|
 .seq (.seq (.ops ([
 yO 6 (.mv (yI 0))])) <|
 .block 2 (.loop (some [2,3,6]) il82l1)) <|
 .seq (.ops ([
 yO 4 (.mv (yB true))])) <|
 .ret
theorem il82_eq:cFn Tryz.prog pol 82 = some ⟨66,il82c,[(4,none)]⟩:=by kernel_rfl
theorem raw82_11_10 {e:FEnv} {h:Heap}:iStep Tryz.prog pol 82 e h (.raw (opOf Tryz.prog 82 11 10)) = vOf h (binE Tryz.prog true 70 (.tmp 59) (.tmp 64) (Src.get e (.v 59)) (Src.get e (.v 64))):=raw_neq (x:=(.tmp 59)) (y:=(.tmp 64)) (s:=70) (by kernel_rfl)
noncomputable def il83l0b:C :=
 .seq (.seq (.ops ([
 yM 11 7,
 yM 12 6,
 yO 13 (.lenS (.v 12)),
 yO 14 (.bin .lss false (.v 11) (.v 13))])) <|
 .cond (.v 14) (.nop) (.exit 0)) <|
 .seq (.block 1 (.seq (.opsD [] ([
  yP 17 2 (.ld true 3 (.v 2)),
  yM 18 6,
  yM 19 7,
  yO 20 (.iaS 1 (.v 18) (.v 19)),
  yP 21 20 (.ld false 1 (.v 20)),
  yQ 22 (yC 119) [(.v 17),(.v 21)]])) <|
  .cond (.v 22) (.ops ([
   yM 23 5,
   yM 24 6,
   yM 25 7,
   yO 26 (.iaS 1 (.v 24) (.v 25))] ++ mkL [2,6,7,23,26] ([
   yL 27 1 26,
   yO 28 (.bs false 1 yZ 1 [(0,(.v 27))]),
   yO 29 (.app 1 8 (.v 23) (.v 28)),
   yO 5 (.gmv 1 (.v 29))]))) (.nop))) <|
 .ops ([
 yM 15 7,
 yO 16 (.bin .add false (.v 15) (yI 1)),
 yM 7 16])
noncomputable def il83l0:C:=il83l0b
theorem il83l0_go {P pol K I n f R e h}:wc P pol K I n f il83l0 R e h = wc P pol K I n f il83l0b R e h:=(fun x=>x) rfl
noncomputable def il83c:C :=
 .seq (.ops ([
 yO 2 (.bx false (.v 0)),
 yO 4 (.mv (.c yS))])) <|
 .seq (.ops ([
 yO 5 (.gmv 1 (.c yS))])) <|
 .seq (.ops ([
 yD 8 3 2,
 yM 9 1,
 yO 10 (.call (yC 118) [(.v 8),(.v 9)]),
 yM 6 10])) <|
 .seq (.seq (.ops ([
 yO 7 (.mv (yI 0))])) <|
 .block 0 (.loop (some [2,5,6,7]) il83l0)) <|
 .seq (.ops ([
 yM 30 5,
 yM 4 30])) <|
 .ret
theorem il83_eq:cFn Tryz.prog pol 83 = some ⟨31,il83c,[(4,none)]⟩:=by kernel_rfl
noncomputable def il84c:C :=
 .seq (.ops ([
 yO 2 (.bx false (.v 0)),
 yO 4 (.mv (yI 0))])) <|
 .seq (.ops ([
 yF 5 2 2,
 yL 6 1 5,
 yM 7 1,
 yO 8 (.bin .quo false (.v 7) (yI 2)),
 yO 9 (.iaS 4 (.v 6) (.v 8)),
 yF 10 2 9,
 yL 11 1 10,
 yM 4 11])) <|
 .ret
theorem il84_eq:cFn Tryz.prog pol 84 = some ⟨12,il84c,[(4,none)]⟩:=by kernel_rfl
noncomputable def il85r0a:C :=
 .seq (.ops ([
 yM 7 22])) <|
 .ops ([
 yO 8 (.nw 6 (.agg [yZ,yZ,yZ,yZ,yZ,yZ])),
 yN (.st 6 (.v 8) (.v 23))])
noncomputable def il85r0b:C :=
 .block 1 (.seq (.ops ([
  yF 24 5 5,
  yF 25 3 24,
  yL 26 1 25,
  yO 27 (.bin .lss false (.v 26) (yI 0)),
  yM 28 27,
  yG 29 28 false (.ld true 6 (.v 8)),
  yG 30 28 false (.ld true 6 (.v 6)),
  yG 31 28 false (.call (yC 91) [(.v 29),(.v 30)]),
  yG 32 28 false (.bin .lss false (.v 31) (yI 0)),
  yO 33 (.pk (.v 28) (yB true) (.v 32))])) <|
  .cond (.v 33) (.seq (.ops ([
   yD 34 6 8,
   yN (.st 6 (.v 6) (.v 34))])) <|
   .opsD [] ([
   yF 35 0 8,
   yP 36 35 (.ld true 2 (.v 35))] ++ mkL [1,5,7,8,36] ([
   yF 37 2 8,
   yP 38 37 (.ld false 1 (.v 37)),
   yM 39 7,
   yF 40 4 1,
   yP 41 40 (.ld false 1 (.v 40)),
   yM 42 7,
   yO 43 (.iaS 8 (.v 41) (.v 42)),
   yF 44 1 43,
   yF 45 6 44,
   yP 46 45 (.ld false 1 (.v 45)),
   yO 47 (.bd [yZ,yZ,yZ,yZ,yZ] [(0,2,(.v 36)),(2,1,(.v 38)),(3,1,(.v 39)),(4,1,(.v 46))]),
   yF 48 5 5,
   yT 48 (.st 5 (.v 48) (.v 47))]))) (.nop))
theorem il85r0a_eq:cCode Tryz.prog pol 85 50 0 (rfOf Tryz.prog 85 0).1 = il85r0a:=by kernel_rfl
theorem il85r0b_eq:cCode Tryz.prog pol 85 50 0 (rfOf Tryz.prog 85 0).2 = il85r0b:=by kernel_rfl
noncomputable def il85c:C :=
 .seq (.ops ([
 yO 1 (.bx false (.v 0)),
 yO 2 (.nw 10 (.agg [yZ,yZ,yS,yS,yS,yZ,yZ,yZ,yZ,yZ])),
 yO 3 (.mv (yI 0))])) <|
 .seq (.seq (.ops ([
 yD 9 5 1,
 yO 10 (.call (yC 77) [(.v 9)]),
 yM 4 10])) <|
 .seq (.ops ([
 yM 11 4,
 yO 12 (.bin .neq false (.v 11) (yI 0))])) <|
 .cond (.v 12) (.seq (.ops ([
  yO 13 (.bd [yZ,yZ,yS,yS,yS,yZ,yZ,yZ,yZ,yZ] []),
  yM 14 4,
  yN (.st 10 (.v 2) (.v 13)),
  yM 3 14])) <|
  .ret) (.nop)) <|
 .seq (.ops ([
 yD 15 5 1,
 yF 16 0 1] ++ mkL [1,2,3,15,16] ([
 yD 17 2 16,
 yO 18 (.bd [yZ,yZ,yZ,yZ,yZ] [(0,2,(.v 17)),(3,1,(yI (-1)))]),
 yO 19 (.bd [yZ,yZ,yS,yS,yS,yZ,yZ,yZ,yZ,yZ] [(0,5,(.v 15)),(5,5,(.v 18))]),
 yO 5 (.nw 10 (.agg [yZ,yZ,yS,yS,yS,yZ,yZ,yZ,yZ,yZ])),
 yN (.st 10 (.v 5) (.v 19))]))) <|
 .seq (.ops ([
 yO 6 (.nw 6 (.agg [yZ,yZ,yZ,yZ,yZ,yZ]))])) <|
 .seq (.seq (.ops ([
 yD 20 10 5,
 yO 21 (.call (yC 120) [(.v 20)])])) <|
 .block 0 (.rangeF 50 (some [1,5,6]) (.v 21) [22,23] (rfOf Tryz.prog 85 0).1 (rfOf Tryz.prog 85 0).2)) <|
 .seq (.ops ([
 yD 49 10 5,
 yN (.st 10 (.v 2) (.v 49)),
 yO 3 (.mv (yI 0))])) <|
 .ret
theorem il85_eq:cFn Tryz.prog pol 85 = some ⟨50,il85c,[(2,some (true,10)),(3,none)]⟩:=by kernel_rfl
noncomputable def il86l0b:C :=
 .seq (.ops ([
 yO 15 (.bin .lss false (.v 14) (.v 13))])) <|
 .seq (.cond (.v 15) (.nop) (.exit 0)) <|
 .seq (.block 1 (.seq (.ops ([
  yM 16 14,
  yM 6 16])) <|
  .ops ([
  yM 17 5,
  yM 18 6,
  yM 19 1,
  yM 20 6,
  yO 21 (.call (.v 19) [(.v 20)]),
  yO 22 (.iaS 1 (.v 17) (.v 18)),
  yN (.st 1 (.v 22) (.v 21))]))) <|
 .ops ([
 yO 23 (.bin .add false (.v 14) (yI 1)),
 yM 14 23])
noncomputable def il86l0:C:=il86l0b
theorem il86l0_go {P pol K I n f R e h}:wc P pol K I n f il86l0 R e h = wc P pol K I n f il86l0b R e h:=(fun x=>x) rfl
noncomputable def il86c:C :=
 .seq (.ops ([
 yO 2 (.bx false (.v 0)),
 yO 4 (.mv (.c yS))])) <|
 .seq (.ops ([
 yF 7 0 2,
 yF 8 2 7,
 yL 9 1 8,
 yO 10 (.lenS (.v 9)),
 yO 11 (.raw (opOf Tryz.prog 86 1 4)),
 yM 5 11])) <|
 .seq (.seq (.ops ([
 yM 12 5,
 yO 13 (.lenS (.v 12)),
 yO 14 (.mv (yI 0))])) <|
 .block 0 (.loop (some [1,5,13,14]) il86l0)) <|
 .seq (.ops ([
 yM 24 5,
 yM 4 24])) <|
 .ret
theorem il86_eq:cFn Tryz.prog pol 86 = some ⟨25,il86c,[(4,none)]⟩:=by kernel_rfl
theorem raw86_1_4 {e:FEnv} {h:Heap}:iStep Tryz.prog pol 86 e h (.raw (opOf Tryz.prog 86 1 4)) = mkSl 1 8 (.sc (.int .i64 0)) h (asNat (Src.get e (.v 10))) (asNat (Src.get e (.v 10))):=raw_makeSlice (t:=26) (l:=(.tmp 10)) (c:=(.tmp 10)) (elem:=3) (by kernel_rfl) (by kernel_rfl) (by kernel_rfl) (by kernel_rfl) (by kernel_rfl) (by kernel_rfl) (by kernel_rfl)
noncomputable def il87c:C :=
 .seq (.ops ([
 yO 2 (.bx false (.v 0)),
 yO 4 (.mv (yI 0))])) <|
 .seq (.seq (.ops ([
 yF 6 0 2,
 yF 7 4 6,
 yL 8 1 7,
 yM 9 1,
 yO 10 (.iaS 8 (.v 8) (.v 9)),
 yD 11 8 10,
 yO 5 (.nw 8 (.agg [(.sc (.bool false)),yZ,yZ,yZ,yZ,yZ,yZ,yZ])),
 yN (.st 8 (.v 5) (.v 11))])) <|
 .block 0 (.seq (.ops ([
  yM 13 1,
  yF 14 5 2,
  yF 15 3 14,
  yL 16 1 15] ++ mkL [1,2,5,13,16] ([
  yO 17 (.bin .eql false (.v 13) (.v 16)),
  yM 12 17]))) <|
  .cond (.v 12) (.seq (.ops ([
   yO 4 (.mv (yI 1))])) <|
   .ret) (.seq (.opsD [(6,9)] ([
   yF 19 0 5,
   yP 20 19 (.ld false 1 (.v 19)),
   yO 21 (.nt (.v 20)),
   yM 22 21,
   ⟨some 23,some (22,false),none,.objs [(.v 2)],.ld true 10 (.v 2)⟩,
   yG 24 22 false (.mv (.v 1)),
   ⟨some 25,some (22,false),none,.cal (yC 121) [(.v 23),(.v 24)],.call (yC 121) [(.v 23),(.v 24)]⟩,
   yG 26 22 false (.fa 1 (.v 5)),
   yG 27 22 false (.fa 0 (.v 26)),
   ⟨some 28,some (22,false),none,.objs [(.v 27)],.ld true 6 (.v 27)⟩,
   ⟨some 29,some (22,false),none,.cal (yC 91) [(.v 25),(.v 28)],.call (yC 91) [(.v 25),(.v 28)]⟩,
   yG 30 22 false (.bin .lss false (.v 29) (yI 0))] ++ mkL [22,30] ([
   yO 31 (.pk (.v 22) (yB true) (.v 30)),
   yM 18 31]))) <|
   .cond (.v 18) (.seq (.ops ([
    yO 4 (.mv (yI 2))])) <|
    .ret) (.nop)))) <|
 .seq (.ops ([
 yO 4 (.mv (yI 3))])) <|
 .ret
theorem il87_eq:cFn Tryz.prog pol 87 = some ⟨32,il87c,[(4,none)]⟩:=by kernel_rfl
noncomputable def il88l0b:C :=
 .seq (.ops ([
 yO 15 (.bin .lss false (.v 14) (.v 13))])) <|
 .seq (.cond (.v 15) (.nop) (.exit 0)) <|
 .seq (.block 1 (.seq (.ops ([
  yM 16 14,
  yM 4 16])) <|
  .opsD [(0,4)] ([
  yP 17 3 (.ld false 1 (.v 3)),
  yM 18 4,
  yP 19 1 (.ld true 6 (.v 1)),
  yM 20 4,
  yQ 21 (yC 34) [(.v 19),(.v 20)],
  yO 22 (.iaS 2 (.v 17) (.v 18)),
  yT 22 (.st 2 (.v 22) (.v 21))]))) <|
 .ops ([
 yO 23 (.bin .add false (.v 14) (yI 1)),
 yM 14 23])
noncomputable def il88l0:C:=il88l0b
theorem il88l0_go {P pol K I n f R e h}:wc P pol K I n f il88l0 R e h = wc P pol K I n f il88l0b R e h:=(fun x=>x) rfl
noncomputable def il88r0a:C :=
 .ops ([
 yO 5 (.nw 4 (.agg [yZ,yZ,yZ,yZ])),
 yN (.st 4 (.v 5) (.v 30))])
noncomputable def il88r0b:C :=
 .block 5 (.seq (.ops ([
  yL 31 1 3,
  yF 32 0 5,
  yL 33 1 32,
  yO 34 (.iaS 2 (.v 31) (.v 33)),
  yD 35 2 34,
  yO 6 (.nw 2 (.agg [yZ,yZ])),
  yN (.st 2 (.v 6) (.v 35))])) <|
  .seq (.seq (.opsD [] ([
  yP 36 3 (.ld false 1 (.v 3)),
  yF 37 1 5,
  yP 38 37 (.ld false 1 (.v 37)),
  yO 39 (.iaS 2 (.v 36) (.v 38)),
  yP 40 39 (.ld true 2 (.v 39)),
  yO 41 (.bd [yZ,yZ,yZ,yZ,yZ,yZ] [(0,2,(.v 40))]),
  yP 42 6 (.ld true 2 (.v 6))] ++ mkL [3,5,6,41,42] ([
  yO 43 (.bd [yZ,yZ,yZ,yZ,yZ,yZ] [(0,2,(.v 42))]),
  yQ 44 (yC 91) [(.v 41),(.v 43)],
  yO 45 (.bin .lss false (.v 44) (yI 0))]))) <|
  .cond (.v 45) (.ops ([
   yL 46 1 3,
   yF 47 1 5,
   yL 48 1 47,
   yO 49 (.iaS 2 (.v 46) (.v 48)),
   yD 50 2 49,
   yN (.st 2 (.v 6) (.v 50))])) (.nop)) <|
  .opsD [(3,9),(5,9),(7,9)] ([
  yP 51 3 (.ld false 1 (.v 3)),
  yF 52 0 5,
  yP 53 52 (.ld false 1 (.v 52)),
  yP 54 3 (.ld false 1 (.v 3)),
  yF 55 1 5] ++ mkL [6,51,53,54,55] ([
  yP 56 55 (.ld false 1 (.v 55)),
  yP 57 6 (.ld true 2 (.v 6)),
  yP 58 6 (.ld true 2 (.v 6)),
  yO 59 (.iaS 2 (.v 51) (.v 53)),
  yT 59 (.st 2 (.v 59) (.v 57)),
  yO 60 (.iaS 2 (.v 54) (.v 56)),
  yT 60 (.st 2 (.v 60) (.v 58))])))
theorem il88r0a_eq:cCode Tryz.prog pol 88 63 0 (rfOf Tryz.prog 88 0).1 = il88r0a:=by kernel_rfl
theorem il88r0b_eq:cCode Tryz.prog pol 88 63 0 (rfOf Tryz.prog 88 0).2 = il88r0b:=by kernel_rfl
noncomputable def il88l1b:C :=
 .seq (.ops ([
 yO 27 (.bin .lss false (.v 26) (.v 25))])) <|
 .seq (.cond (.v 27) (.nop) (.exit 2)) <|
 .seq (.block 3 (.seq (.ops ([
  yD 28 6 1,
  yO 29 (.call (yC 122) [(.v 28)])])) <|
  .block 4 (.rangeF 63 (some [3]) (.v 29) [30] (rfOf Tryz.prog 88 0).1 (rfOf Tryz.prog 88 0).2))) <|
 .ops ([
 yO 61 (.bin .add false (.v 26) (yI 1)),
 yM 26 61])
noncomputable def il88l1:C:=il88l1b
theorem il88l1_go {P pol K I n f R e h}:wc P pol K I n f il88l1 R e h = wc P pol K I n f il88l1b R e h:=(fun x=>x) rfl
noncomputable def il88c:C :=
 .seq (.ops ([
 yO 1 (.bx false (.v 0)),
 yO 2 (.mv (.c yS))])) <|
 .seq (.ops ([
 yF 7 0 1,
 yF 8 0 7,
 yF 9 0 8,
 yL 10 1 9,
 yO 11 (.raw (opOf Tryz.prog 88 1 4)),
 yO 3 (.nw 1 yS),
 yN (.st 1 (.v 3) (.v 11))])) <|
 .seq (.seq (.ops ([
 yL 12 1 3,
 yO 13 (.lenS (.v 12)),
 yO 14 (.mv (yI 0))])) <|
 .block 0 (.loop (some [1,2,3,13,14]) il88l0)) <|
 .seq (.seq (.ops ([
 yL 24 1 3,
 yO 25 (.lenS (.v 24)),
 yO 26 (.mv (yI 0))])) <|
 .block 2 (.loop (some [1,2,3,25,26]) il88l1)) <|
 .seq (.ops ([
 yL 62 1 3,
 yM 2 62])) <|
 .ret
theorem il88_eq:cFn Tryz.prog pol 88 = some ⟨63,il88c,[(2,none)]⟩:=by kernel_rfl
theorem raw88_1_4 {e:FEnv} {h:Heap}:iStep Tryz.prog pol 88 e h (.raw (opOf Tryz.prog 88 1 4)) = mkSl 2 16 (.agg [(.sc (.int .i64 0)),(.sc (.int .i64 0))]) h (asNat (Src.get e (.v 10))) (asNat (Src.get e (.v 10))):=raw_makeSlice (t:=95) (l:=(.tmp 10)) (c:=(.tmp 10)) (elem:=62) (by kernel_rfl) (by kernel_rfl) (by kernel_rfl) (by kernel_rfl) (by kernel_rfl) (by kernel_rfl) (by kernel_rfl)
noncomputable def il89l0b:C :=
 .seq (.ops ([
 yO 17 (.bin .lss false (.v 16) (.v 15))])) <|
 .seq (.cond (.v 17) (.nop) (.exit 0)) <|
 .seq (.block 1 (.seq (.ops ([
  yM 18 16,
  yM 6 18])) <|
  .seq (.opsD [(3,6)] ([
  yM 19 1,
  yM 20 6,
  yO 21 (.iaS 2 (.v 19) (.v 20)),
  yP 22 21 (.ld true 2 (.v 21)),
  yP 23 2 (.ld true 6 (.v 2)),
  yM 24 6,
  yQ 25 (yC 34) [(.v 23),(.v 24)],
  yO 26 (.raw (opOf Tryz.prog 89 5 7))])) <|
  .cond (.v 26) (.ops ([
   yL 27 1 5,
   yM 28 6,
   yO 29 (.iaS 1 (.v 27) (.v 28))] ++ mkL [1,2,4,5,15,16,29] ([
   yN (.st 1 (.v 29) (yI 12000))]))) (.nop))) <|
 .ops ([
 yO 30 (.bin .add false (.v 16) (yI 1)),
 yM 16 30])
noncomputable def il89l0:C:=il89l0b
theorem il89l0_go {P pol K I n f R e h}:wc P pol K I n f il89l0 R e h = wc P pol K I n f il89l0b R e h:=(fun x=>x) rfl
noncomputable def il89r0a:C :=
 .ops ([
 yO 8 (.nw 4 (.agg [yZ,yZ,yZ,yZ])),
 yN (.st 4 (.v 8) (.v 38))])
noncomputable def il89r0b:C :=
 .block 5 (.seq (.ops ([
  yL 39 1 7,
  yF 40 0 8,
  yL 41 1 40,
  yF 42 1 8,
  yL 43 1 42,
  yF 44 2 8,
  yL 45 1 44,
  yO 46 (.call (.v 39) [(.v 41),(.v 43),(.v 45)])])) <|
  .ops ([
  yL 47 1 7,
  yF 48 1 8,
  yL 49 1 48,
  yF 50 0 8,
  yL 51 1 50,
  yF 52 2 8] ++ mkL [47,49,51,52] ([
  yL 53 1 52,
  yO 54 (.call (.v 47) [(.v 49),(.v 51),(.v 53)])])))
theorem il89r0a_eq:cCode Tryz.prog pol 89 57 0 (rfOf Tryz.prog 89 0).1 = il89r0a:=by kernel_rfl
theorem il89r0b_eq:cCode Tryz.prog pol 89 57 0 (rfOf Tryz.prog 89 0).2 = il89r0b:=by kernel_rfl
noncomputable def il89l1b:C :=
 .seq (.ops ([
 yO 35 (.bin .lss false (.v 34) (.v 33))])) <|
 .seq (.cond (.v 35) (.nop) (.exit 2)) <|
 .seq (.block 3 (.seq (.ops ([
  yD 36 6 2,
  yO 37 (.call (yC 122) [(.v 36)])])) <|
  .block 4 (.rangeF 57 (some [7]) (.v 37) [38] (rfOf Tryz.prog 89 0).1 (rfOf Tryz.prog 89 0).2))) <|
 .ops ([
 yO 55 (.bin .add false (.v 34) (yI 1)),
 yM 34 55])
noncomputable def il89l1:C:=il89l1b
theorem il89l1_go {P pol K I n f R e h}:wc P pol K I n f il89l1 R e h = wc P pol K I n f il89l1b R e h:=(fun x=>x) rfl
noncomputable def il89c:C :=
 .seq (.ops ([
 yO 2 (.bx false (.v 0)),
 yO 4 (.mv (.c yS))])) <|
 .seq (.ops ([
 yF 9 0 2,
 yF 10 0 9,
 yF 11 0 10,
 yL 12 1 11,
 yO 13 (.raw (opOf Tryz.prog 89 1 4)),
 yO 5 (.nw 1 yS),
 yN (.st 1 (.v 5) (.v 13))])) <|
 .seq (.seq (.ops ([
 yL 14 1 5,
 yO 15 (.lenS (.v 14)),
 yO 16 (.mv (yI 0))])) <|
 .block 0 (.loop (some [1,2,4,5,15,16]) il89l0)) <|
 .seq (.ops ([
 yO 31 (.fn 123 [] [(.v 5)]),
 yO 7 (.nw 1 (.sc .nilFunc)),
 yN (.st 1 (.v 7) (.v 31))])) <|
 .seq (.seq (.ops ([
 yL 32 1 5,
 yO 33 (.lenS (.v 32)),
 yO 34 (.mv (yI 0))])) <|
 .block 2 (.loop (some [2,4,5,7,33,34]) il89l1)) <|
 .seq (.ops ([
 yL 56 1 5,
 yM 4 56])) <|
 .ret
theorem il89_eq:cFn Tryz.prog pol 89 = some ⟨57,il89c,[(4,none)]⟩:=by kernel_rfl
theorem raw89_1_4 {e:FEnv} {h:Heap}:iStep Tryz.prog pol 89 e h (.raw (opOf Tryz.prog 89 1 4)) = mkSl 1 8 (.sc (.int .i64 0)) h (asNat (Src.get e (.v 12))) (asNat (Src.get e (.v 12))):=raw_makeSlice (t:=26) (l:=(.tmp 12)) (c:=(.tmp 12)) (elem:=3) (by kernel_rfl) (by kernel_rfl) (by kernel_rfl) (by kernel_rfl) (by kernel_rfl) (by kernel_rfl) (by kernel_rfl)
theorem raw89_5_7 {e:FEnv} {h:Heap}:iStep Tryz.prog pol 89 e h (.raw (opOf Tryz.prog 89 5 7)) = vOf h (binE Tryz.prog true 62 (.tmp 22) (.tmp 25) (Src.get e (.v 22)) (Src.get e (.v 25))):=raw_neq (x:=(.tmp 22)) (y:=(.tmp 25)) (s:=62) (by kernel_rfl)
noncomputable def il90c:C :=
 .seq (.ops ([
 yO 6 (.nw 6 (.agg [yZ,yZ,yZ,yZ,yZ,yZ]))])) <|
 .seq (.ops ([
 yD 8 6 2,
 yM 9 0,
 yO 10 (.call (yC 76) [(.v 8),(.v 9)]),
 yM 7 10])) <|
 .seq (.opsD [(0,8),(3,8)] ([
 yP 11 3 (.ld false 1 (.v 3)),
 yM 12 7,
 yO 13 (.iaS 1 (.v 11) (.v 12)),
 yP 14 13 (.ld false 1 (.v 13)),
 yM 15 1,
 yO 16 (.bin .add false (.v 14) (.v 15)),
 yP 17 2 (.ld true 6 (.v 2)),
 yM 18 7,
 yQ 19 (yC 34) [(.v 17),(.v 18)]] ++ mkL [0,6,16,19] ([
 yM 20 0,
 yO 21 (.bin .xor false (.v 20) (yI 1)),
 yO 22 (.bd [yZ,yZ,yZ,yZ,yZ,yZ] [(2,1,(.v 16)),(3,2,(.v 19)),(5,1,(.v 21))]),
 yT 6 (.st 6 (.v 6) (.v 22))]))) <|
 .ret
theorem il90_eq:cFn Tryz.prog pol 90 = some ⟨23,il90c,[(6,some (true,6))]⟩:=by kernel_rfl
noncomputable def il91l0b:C :=
 .seq (.ops ([
 yO 17 (.bin .lss false (.v 16) (yI 6))])) <|
 .seq (.cond (.v 17) (.nop) (.exit 0)) <|
 .seq (.block 1 (.seq (.ops ([
  yM 18 16,
  yM 8 18])) <|
  .seq (.opsD [] ([
  yM 19 8,
  yO 20 (.iaA 6 1 (.v 5) (.v 19)),
  yP 21 20 (.ld false 1 (.v 20)),
  yM 22 8,
  yO 23 (.iaA 6 1 (.v 6) (.v 22)),
  yP 24 23 (.ld false 1 (.v 23)),
  yQ 25 (yC 125) [(.v 21),(.v 24)],
  yM 7 25])) <|
  .seq (.ops ([
  yM 26 7,
  yO 27 (.bin .neq false (.v 26) (yI 0))])) <|
  .cond (.v 27) (.exit 0) (.nop))) <|
 .ops ([
 yO 28 (.bin .add false (.v 16) (yI 1))] ++ mkL [5,6,7,28] ([
 yM 16 28]))
noncomputable def il91l0:C:=il91l0b
theorem il91l0_go {P pol K I n f R e h}:wc P pol K I n f il91l0 R e h = wc P pol K I n f il91l0b R e h:=(fun x=>x) rfl
noncomputable def il91c:C :=
 .seq (.ops ([
 yO 2 (.bx false (.v 0)),
 yO 3 (.bx false (.v 1)),
 yO 4 (.mv (yI 0))])) <|
 .seq (.seq (.ops ([
 yD 9 6 2,
 yD 10 6 3,
 yO 11 (.raw (opOf Tryz.prog 91 1 2))])) <|
 .cond (.v 11) (.seq (.ops ([
  yO 4 (.mv (yI 0))])) <|
  .ret) (.nop)) <|
 .seq (.opsD [(1,2),(0,4),(1,4),(2,4),(3,4),(0,5),(1,5),(2,5),(3,5)] ([
 yP 12 2 (.ld true 6 (.v 2)),
 yQ 13 (yC 124) [(.v 12)],
 yP 14 3 (.ld true 6 (.v 3)),
 yQ 15 (yC 124) [(.v 14)],
 yO 5 (.nw 6 (.agg [yZ,yZ,yZ,yZ,yZ,yZ])),
 yO 6 (.nw 6 (.agg [yZ,yZ,yZ,yZ,yZ,yZ])),
 yT 5 (.st 6 (.v 5) (.v 13))] ++ mkL [5,6,15] ([
 yT 6 (.st 6 (.v 6) (.v 15))]))) <|
 .seq (.ops ([
 yO 7 (.mv (yI 0))])) <|
 .seq (.nop) <|
 .seq (.seq (.ops ([
 yO 16 (.mv (yI 0))])) <|
 .block 0 (.loop (some [5,6,7,16]) il91l0)) <|
 .seq (.ops ([
 yM 29 7,
 yM 4 29])) <|
 .ret
theorem il91_eq:cFn Tryz.prog pol 91 = some ⟨30,il91c,[(4,none)]⟩:=by kernel_rfl
theorem raw91_1_2 {e:FEnv} {h:Heap}:iStep Tryz.prog pol 91 e h (.raw (opOf Tryz.prog 91 1 2)) = vOf h (binE Tryz.prog false 85 (.tmp 9) (.tmp 10) (Src.get e (.v 9)) (Src.get e (.v 10))):=raw_eql (x:=(.tmp 9)) (y:=(.tmp 10)) (s:=85) (by kernel_rfl)
noncomputable def il92c:C :=
 .seq (.ops ([
 yO 8 (.mv (yI 0))])) <|
 .seq (.opsD [(0,6),(3,6),(0,9),(3,9),(4,9),(6,9)] ([
 yP 10 2 (.ld false 1 (.v 2)),
 yM 11 0,
 yO 12 (.iaS 1 (.v 10) (.v 11)),
 yP 13 12 (.ld false 1 (.v 12)),
 yP 14 3 (.ld true 6 (.v 3)),
 yM 15 0,
 yQ 16 (yC 34) [(.v 14),(.v 15)],
 yM 17 1,
 yO 18 (.bd [yZ,yZ,yZ,yZ,yZ,yZ] [(2,1,(.v 13)),(3,2,(.v 16)),(5,1,(.v 17))]),
 yO 9 (.nw 6 (.agg [yZ,yZ,yZ,yZ,yZ,yZ])),
 yT 9 (.st 6 (.v 9) (.v 18))])) <|
 .seq (.block 0 (.seq (.ops ([
  yM 20 1,
  yL 21 1 4] ++ mkL [0,1,5,9,20,21] ([
  yM 22 0,
  yO 23 (.iaS 1 (.v 21) (.v 22)),
  yL 24 1 23,
  yO 25 (.bin .eql false (.v 20) (.v 24)),
  yM 19 25]))) <|
  .cond (.v 19) (.seq (.ops ([
   yO 8 (.mv (yI 1))])) <|
   .ret) (.seq (.opsD [(0,3)] ([
   yP 27 9 (.ld true 6 (.v 9)),
   yP 28 5 (.ld false 1 (.v 5)),
   yM 29 1,
   ⟨some 30,none,none,.cal (.v 28) [(.v 29),(yI 0)],.call (.v 28) [(.v 29),(yI 0)]⟩,
   yQ 31 (yC 91) [(.v 27),(.v 30)],
   yO 32 (.bin .lss false (.v 31) (yI 0)),
   yM 26 32])) <|
   .cond (.v 26) (.seq (.ops ([
    yO 8 (.mv (yI 2))])) <|
    .ret) (.nop)))) <|
 .seq (.ops ([
 yO 8 (.mv (yI 3))])) <|
 .ret
theorem il92_eq:cFn Tryz.prog pol 92 = some ⟨33,il92c,[(8,none)]⟩:=by kernel_rfl
noncomputable def il100c:C :=
 .seq (.ops ([
 yO 1 (.bx false (.v 0)),
 yO 2 (.mv (.c yS)),
 yO 3 (.mv (yI 0))])) <|
 .seq (.ops ([
 yD 7 5 1,
 yO 8 (.call (yC 85) [(.v 7)]),
 yM 6 8,
 yO 9 (.ex (.v 6) 0),
 yO 10 (.ex (.v 6) 1),
 yO 4 (.nw 10 (.agg [yZ,yZ,yS,yS,yS,yZ,yZ,yZ,yZ,yZ])),
 yN (.st 10 (.v 4) (.v 9)),
 yM 5 10])) <|
 .seq (.seq (.ops ([
 yM 11 5,
 yO 12 (.bin .neq false (.v 11) (yI 0))])) <|
 .cond (.v 12) (.seq (.ops ([
  yM 13 5] ++ mkL [13] ([
  yO 2 (.mv (.c yS)),
  yM 3 13]))) <|
  .ret) (.nop)) <|
 .seq (.ops ([
 yD 14 10 4] ++ mkL [4,14] ([
 yD 15 10 4,
 yO 16 (.fn 129 [(.v 15)] []),
 yO 17 (.call (yC 128) [(.v 14),(.v 16)]),
 yM 2 17,
 yO 3 (.mv (yI 0))]))) <|
 .ret
theorem il100_eq:cFn Tryz.prog pol 100 = some ⟨18,il100c,[(2,none),(3,none)]⟩:=by kernel_rfl
noncomputable def il101c:C :=
 .seq (.ops ([
 yO 3 (.bx false (.v 0)),
 yO 4 (.bx false (.v 1)),
 yO 5 (.bx false (.v 2)),
 yO 6 (.nw 5 (.agg [yZ,yZ,yS,yS,yS])),
 yO 7 (.mv (yI 0))])) <|
 .seq (.seq (.ops ([
 yD 10 5 3,
 yO 11 (.call (yC 77) [(.v 10)]),
 yM 8 11])) <|
 .seq (.ops ([
 yM 12 8,
 yO 13 (.bin .neq false (.v 12) (yI 0))])) <|
 .cond (.v 13) (.seq (.ops ([
  yO 14 (.bd [yZ,yZ,yS,yS,yS] []),
  yM 15 8,
  yN (.st 5 (.v 6) (.v 14)),
  yM 7 15])) <|
  .ret) (.nop)) <| mkC [3,4,5,6] <|
 .seq (.seq (.ops ([
 yL 16 1 4,
 yO 17 (.bin .lss false (.v 16) (yI 0)),
 yM 18 17,
 yG 19 18 false (.ld false 1 (.v 4)),
 yG 20 18 false (.fa 2 (.v 3)),
 yG 21 18 false (.ld false 1 (.v 20)),
 yG 22 18 false (.lenS (.v 21)),
 yG 23 18 false (.bin .geq false (.v 19) (.v 22)),
 yO 24 (.pk (.v 18) (yB true) (.v 23))])) <|
 .cond (.v 24) (.seq (.ops ([
  yO 25 (.bd [yZ,yZ,yS,yS,yS] []),
  yN (.st 5 (.v 6) (.v 25)),
  yO 7 (.mv (yI 2))])) <|
  .ret) (.nop)) <|
 .seq (.seq (.ops ([
 yD 26 7 5,
 yO 27 (.call (yC 114) [(.v 26)])] ++ mkL [3,4,5,6,27] ([
 yM 9 27]))) <|
 .seq (.ops ([
 yM 28 9,
 yO 29 (.bin .neq false (.v 28) (yI 0))])) <|
 .cond (.v 29) (.seq (.ops ([
  yO 30 (.bd [yZ,yZ,yS,yS,yS] []),
  yM 31 9,
  yN (.st 5 (.v 6) (.v 30)),
  yM 7 31])) <|
  .ret) (.nop)) <|
 .seq (.ops ([
 yD 32 5 3,
 yO 33 (.fn 130 [] [(.v 4),(.v 5)]),
 yO 34 (.call (yC 78) [(.v 32),(.v 33)]),
 yN (.st 5 (.v 6) (.v 34)),
 yO 7 (.mv (yI 0))])) <|
 .ret
theorem il101_eq:cFn Tryz.prog pol 101 = some ⟨35,il101c,[(6,some (true,5)),(7,none)]⟩:=by kernel_rfl
noncomputable def il102c:C :=
 .seq (.ops ([
 yO 1 (.bx false (.v 0)),
 yO 2 (.nw 5 (.agg [yZ,yZ,yS,yS,yS])),
 yO 3 (.mv (yI 0))])) <|
 .seq (.seq (.ops ([
 yD 5 5 1,
 yO 6 (.call (yC 77) [(.v 5)]),
 yM 4 6])) <|
 .seq (.ops ([
 yM 7 4,
 yO 8 (.bin .neq false (.v 7) (yI 0))])) <|
 .cond (.v 8) (.seq (.ops ([
  yO 9 (.bd [yZ,yZ,yS,yS,yS] []),
  yM 10 4,
  yN (.st 5 (.v 2) (.v 9)),
  yM 3 10])) <|
  .ret) (.nop)) <|
 .seq (.ops ([
 yD 11 5 1,
 yO 12 (.call (yC 78) [(.v 11),(yC 131)])] ++ mkL [2,12] ([
 yN (.st 5 (.v 2) (.v 12)),
 yO 3 (.mv (yI 0))]))) <|
 .ret
theorem il102_eq:cFn Tryz.prog pol 102 = some ⟨13,il102c,[(2,some (true,5)),(3,none)]⟩:=by kernel_rfl
noncomputable def il103c:C :=
 .ops ([
 yM 3 0,
 yL 4 1 1,
 yO 5 (.bd [(.sc (.bool false)),yZ,yZ,yZ,yZ,yZ,yZ,yZ] []),
 yO 6 (.iaS 8 (.v 3) (.v 4)),
 yN (.st 8 (.v 6) (.v 5))])
theorem il103_eq:cFn Tryz.prog pol 103 = some ⟨7,il103c,[]⟩:=by kernel_rfl
noncomputable def il105c:C :=
 .seq (.ops ([
 yO 3 (.mv (yB false))])) <|
 .seq (.ops ([
 yF 5 2 1,
 yL 6 1 5,
 yM 7 0,
 yO 8 (.iaS 4 (.v 6) (.v 7)),
 yD 9 4 8,
 yO 4 (.nw 4 (.agg [yZ,yZ,yZ,yZ])),
 yN (.st 4 (.v 4) (.v 9))])) <|
 .seq (.ops ([
 yD 10 3 1,
 yF 11 0 4,
 yL 12 1 11,
 yO 13 (.call (yC 106) [(.v 10),(.v 12)]),
 yM 14 13,
 yG 15 14 true (.ld true 3 (.v 1))] ++ mkL [4,14,15] ([
 yG 16 14 true (.fa 1 (.v 4)),
 yG 17 14 true (.ld false 1 (.v 16)),
 yG 18 14 true (.call (yC 106) [(.v 15),(.v 17)]),
 yO 19 (.pk (.v 14) (.v 18) (yB false)),
 yM 20 19,
 yG 21 20 true (.fa 0 (.v 4)),
 yG 22 20 true (.ld false 1 (.v 21)),
 yG 23 20 true (.fa 1 (.v 4)),
 yG 24 20 true (.ld false 1 (.v 23)),
 yG 25 20 true (.bin .neq false (.v 22) (.v 24)),
 yO 26 (.pk (.v 20) (.v 25) (yB false)),
 yM 3 26]))) <|
 .ret
theorem il105_eq:cFn Tryz.prog pol 105 = some ⟨27,il105c,[(3,none)]⟩:=by kernel_rfl
noncomputable def il106c:C :=
 .seq (.ops ([
 yO 2 (.bx false (.v 0)),
 yO 4 (.mv (yB false))])) <|
 .seq (.ops ([
 yM 5 1,
 yO 6 (.bin .geq false (.v 5) (yI 0)),
 yM 7 6,
 yG 8 7 true (.mv (.v 1)),
 yG 9 7 true (.fa 0 (.v 2)),
 yG 10 7 true (.ld false 1 (.v 9)),
 yG 11 7 true (.bin .lss false (.v 8) (.v 10)),
 yO 12 (.pk (.v 7) (.v 11) (yB false)),
 yM 4 12])) <|
 .ret
theorem il106_eq:cFn Tryz.prog pol 106 = some ⟨13,il106c,[(4,none)]⟩:=by kernel_rfl
noncomputable def il107c:C :=
 .seq (.ops ([
 yO 3 (.mv (yB false))])) <|
 .seq (.ops ([
 yF 5 2 1,
 yL 6 1 5,
 yM 7 0,
 yO 8 (.iaS 4 (.v 6) (.v 7)),
 yD 9 4 8,
 yO 4 (.nw 4 (.agg [yZ,yZ,yZ,yZ])),
 yN (.st 4 (.v 4) (.v 9))])) <|
 .seq (.ops ([
 yF 10 1 1,
 yL 11 1 10,
 yF 12 0 4,
 yL 13 1 12,
 yO 14 (.iaS 1 (.v 11) (.v 13)),
 yL 15 1 14] ++ mkL [1,4,15] ([
 yO 16 (.nt (.v 15)),
 yM 17 16,
 yG 18 17 false (.fa 1 (.v 1)),
 yG 19 17 false (.ld false 1 (.v 18)),
 yG 20 17 false (.fa 1 (.v 4)),
 yG 21 17 false (.ld false 1 (.v 20)),
 yG 22 17 false (.iaS 1 (.v 19) (.v 21)),
 yG 23 17 false (.ld false 1 (.v 22)),
 yG 24 17 false (.nt (.v 23)),
 yO 25 (.pk (.v 17) (yB true) (.v 24)),
 yM 3 25]))) <|
 .ret
theorem il107_eq:cFn Tryz.prog pol 107 = some ⟨26,il107c,[(3,none)]⟩:=by kernel_rfl
noncomputable def il108l0b:C :=
 .seq (.ops ([
 yO 18 (.bin .lss false (.v 17) (.v 16))])) <|
 .seq (.cond (.v 18) (.nop) (.exit 0)) <|
 .seq (.block 1 (.seq (.ops ([
  yO 19 (.iaS 4 (.v 15) (.v 17)),
  yD 20 4 19,
  yO 6 (.nw 4 (.agg [yZ,yZ,yZ,yZ])),
  yN (.st 4 (.v 6) (.v 20))])) <|
  .seq (.ops ([
  yF 21 0 4,
  yL 22 1 21,
  yF 23 0 6,
  yL 24 1 23,
  yO 25 (.bin .eql false (.v 22) (.v 24)),
  yM 26 25,
  yG 27 26 true (.fa 1 (.v 4)),
  yG 28 26 true (.ld false 1 (.v 27)),
  yG 29 26 true (.fa 1 (.v 6))] ++ mkL [4,6,15,16,17,26,28,29] ([
  yG 30 26 true (.ld false 1 (.v 29)),
  yG 31 26 true (.bin .eql false (.v 28) (.v 30)),
  yO 32 (.pk (.v 26) (.v 31) (yB false)),
  yM 33 32,
  yG 34 33 false (.fa 0 (.v 4)),
  yG 35 33 false (.ld false 1 (.v 34)),
  yG 36 33 false (.fa 1 (.v 6)),
  yG 37 33 false (.ld false 1 (.v 36)),
  yG 38 33 false (.bin .eql false (.v 35) (.v 37)),
  yG 39 33 false (.mv (.v 38)),
  yG 40 39 true (.fa 1 (.v 4)),
  yG 41 39 true (.ld false 1 (.v 40)),
  yG 42 39 true (.fa 0 (.v 6)),
  yG 43 39 true (.ld false 1 (.v 42))] ++ mkL [4,15,16,17,33,39,41,43] ([
  yG 44 39 true (.bin .eql false (.v 41) (.v 43)),
  yG 45 33 false (.pk (.v 39) (.v 44) (yB false)),
  yO 46 (.pk (.v 33) (yB true) (.v 45))])))) <|
  .cond (.v 46) (.seq (.ops ([
   yO 3 (.mv (yB false))])) <|
   .ret) (.nop))) <|
 .ops ([
 yO 47 (.bin .add false (.v 17) (yI 1)),
 yM 17 47])
noncomputable def il108l0:C:=il108l0b
theorem il108l0_go {P pol K I n f R e h}:wc P pol K I n f il108l0 R e h = wc P pol K I n f il108l0b R e h:=(fun x=>x) rfl
noncomputable def il108c:C :=
 .seq (.ops ([
 yO 3 (.mv (yB false))])) <|
 .seq (.ops ([
 yF 7 2 1,
 yL 8 1 7,
 yM 9 0,
 yO 10 (.iaS 4 (.v 8) (.v 9)),
 yD 11 4 10,
 yO 4 (.nw 4 (.agg [yZ,yZ,yZ,yZ])),
 yN (.st 4 (.v 4) (.v 11))])) <|
 .seq (.seq (.ops ([
 yF 12 2 1,
 yL 13 1 12,
 yM 14 0,
 yO 15 (.sl 4 (.v 13) none (some (.v 14)) none),
 yO 16 (.lenS (.v 15)),
 yO 17 (.mv (yI 0))])) <| mkC [4,15,16,17] <|
 .block 0 (.loop (some [4,15,16,17]) il108l0)) <|
 .seq (.ops ([
 yO 3 (.mv (yB true))])) <|
 .ret
theorem il108_eq:cFn Tryz.prog pol 108 = some ⟨48,il108c,[(3,none)]⟩:=by kernel_rfl
noncomputable def il109c:C :=
 .seq (.ops ([
 yO 3 (.mv (yB false))])) <|
 .seq (.ops ([
 yF 5 2 1,
 yL 6 1 5,
 yM 7 0,
 yO 8 (.iaS 4 (.v 6) (.v 7)),
 yD 9 4 8,
 yO 4 (.nw 4 (.agg [yZ,yZ,yZ,yZ])),
 yN (.st 4 (.v 4) (.v 9))])) <|
 .seq (.ops ([
 yF 10 2 4,
 yL 11 1 10,
 yO 12 (.bin .geq false (.v 11) (yI 1)),
 yM 13 12,
 yG 14 13 true (.fa 2 (.v 4)),
 yG 15 13 true (.ld false 1 (.v 14))] ++ mkL [4,13,15] ([
 yG 16 13 true (.bin .leq false (.v 15) (yI 1000)),
 yO 17 (.pk (.v 13) (.v 16) (yB false)),
 yM 18 17,
 yG 19 18 true (.fa 3 (.v 4)),
 yG 20 18 true (.ld false 1 (.v 19)),
 yG 21 18 true (.bin .geq false (.v 20) (yI 0)),
 yO 22 (.pk (.v 18) (.v 21) (yB false)),
 yM 23 22,
 yG 24 23 true (.fa 3 (.v 4)),
 yG 25 23 true (.ld false 1 (.v 24)),
 yG 26 23 true (.bin .leq false (.v 25) (yI 10000)),
 yO 27 (.pk (.v 23) (.v 26) (yB false)),
 yM 3 27]))) <|
 .ret
theorem il109_eq:cFn Tryz.prog pol 109 = some ⟨28,il109c,[(3,none)]⟩:=by kernel_rfl
noncomputable def il110l0b:C :=
 .seq (.ops ([
 yO 9 (.bin .lss false (.v 8) (.v 7))])) <|
 .seq (.cond (.v 9) (.nop) (.exit 0)) <|
 .seq (.block 1 (.seq (.ops ([
  yM 10 8,
  yM 5 10])) <|
  .seq (.ops ([
  yM 11 1,
  yM 12 0,
  yM 13 5,
  yO 14 (.iaS 1 (.v 12) (.v 13)),
  yL 15 1 14,
  yO 16 (.bin .eql true (.v 11) (.v 15))])) <|
  .cond (.v 16) (.seq (.ops ([
   yM 17 5,
   yM 4 17])) <|
   .ret) (.nop))) <|
 .ops ([
 yO 18 (.bin .add false (.v 8) (yI 1)),
 yM 8 18])
noncomputable def il110l0:C:=il110l0b
theorem il110l0_go {P pol K I n f R e h}:wc P pol K I n f il110l0 R e h = wc P pol K I n f il110l0b R e h:=(fun x=>x) rfl
noncomputable def il110c:C :=
 .seq (.ops ([
 yO 4 (.mv (yI 0))])) <|
 .seq (.seq (.ops ([
 yM 6 0,
 yO 7 (.lenS (.v 6)),
 yO 8 (.mv (yI 0))])) <|
 .block 0 (.loop (some [0,1,7,8]) il110l0)) <|
 .seq (.ops ([
 yO 4 (.mv (yI (-1)))])) <|
 .ret
theorem il110_eq:cFn Tryz.prog pol 110 = some ⟨19,il110c,[(4,none)]⟩:=by kernel_rfl
noncomputable def il111r0a:C :=
 .ops ([
 yO 8 (.nw 5 (.agg [yZ,yZ,yZ,yZ,yZ])),
 yN (.st 5 (.v 8) (.v 24))])
noncomputable def il111r0b:C :=
 .block 1 (.seq (.opsD [(1,2)] ([
  yP 25 8 (.ld true 5 (.v 8)),
  yQ 26 (yC 133) [(.v 25)],
  yP 27 3 (.ld false 1 (.v 3)),
  yO 28 (.bin .eql false (.v 26) (.v 27))])) <|
  .cond (.v 28) (.ops ([
   yL 29 1 7,
   yF 30 4 8,
   yL 31 1 30,
   yO 32 (.bs false 1 yZ 1 [(0,(.v 31))]),
   yO 33 (.app 1 8 (.v 29) (.v 32)),
   yN (.st 1 (.v 7) (.v 33))])) (.nop))
theorem il111r0a_eq:cCode Tryz.prog pol 111 35 0 (rfOf Tryz.prog 111 0).1 = il111r0a:=by kernel_rfl
theorem il111r0b_eq:cCode Tryz.prog pol 111 35 0 (rfOf Tryz.prog 111 0).2 = il111r0b:=by kernel_rfl
noncomputable def il111c:C :=
 .seq (.ops ([
 yO 2 (.bx false (.v 0)),
 yO 3 (.bx false (.v 1)),
 yO 4 (.mv (.c yS)),
 yO 5 (.mv (yI 0))])) <|
 .seq (.seq (.ops ([
 yD 9 3 2,
 yO 10 (.call (yC 28) [(.v 9)]),
 yM 6 10])) <|
 .seq (.ops ([
 yM 11 6,
 yO 12 (.bin .neq false (.v 11) (yI 0))])) <|
 .cond (.v 12) (.seq (.ops ([
  yM 13 6,
  yO 4 (.mv (.c yS)),
  yM 5 13])) <|
  .ret) (.nop)) <|
 .seq (.seq (.ops ([
 yL 14 1 3,
 yO 15 (.bin .lss false (.v 14) (yI 0))] ++ mkL [2,3,4,5,15] ([
 yM 16 15,
 yG 17 16 false (.ld false 1 (.v 3)),
 yG 18 16 false (.fa 0 (.v 2)),
 yG 19 16 false (.ld false 1 (.v 18)),
 yG 20 16 false (.bin .geq false (.v 17) (.v 19)),
 yO 21 (.pk (.v 16) (yB true) (.v 20))]))) <|
 .cond (.v 21) (.seq (.ops ([
  yO 4 (.mv (.c yS)),
  yO 5 (.mv (yI 2))])) <|
  .ret) (.nop)) <|
 .seq (.ops ([
 yO 7 (.nwG 1)])) <|
 .seq (.seq (.ops ([
 yD 22 3 2,
 yO 23 (.call (yC 132) [(.v 22)])])) <|
 .block 0 (.rangeF 35 (some [3,7]) (.v 23) [24] (rfOf Tryz.prog 111 0).1 (rfOf Tryz.prog 111 0).2)) <|
 .seq (.ops ([
 yL 34 1 7,
 yM 4 34,
 yO 5 (.mv (yI 0))])) <|
 .ret
theorem il111_eq:cFn Tryz.prog pol 111 = some ⟨35,il111c,[(4,none),(5,none)]⟩:=by kernel_rfl
noncomputable def il112c:C :=
 .seq (.ops ([
 yO 2 (.bx false (.v 0)),
 yO 4 (.mv (yI 0)),
 yO 5 (.mv (yI 0))])) <|
 .seq (.ops ([
 yD 6 3 2,
 yM 7 1,
 yO 8 (.call (yC 134) [(.v 6),(.v 7),(yC 135)]),
 yO 9 (.ex (.v 8) 0),
 yO 10 (.ex (.v 8) 1),
 yM 4 9,
 yM 5 10])) <|
 .ret
theorem il112_eq:cFn Tryz.prog pol 112 = some ⟨11,il112c,[(4,none),(5,none)]⟩:=by kernel_rfl
noncomputable def il113c:C :=
 .seq (.ops ([
 yO 1 (.bx false (.v 0)),
 yO 2 (.mv (yI 0))])) <|
 .seq (.seq (.ops ([
 yF 3 0 1,
 yD 4 2 3,
 yO 5 (.call (yC 136) [(.v 4)]),
 yO 6 (.nt (.v 5)),
 yM 7 6,
 yG 8 7 false (.fa 3 (.v 1)),
 yG 9 7 false (.ld true 2 (.v 8)),
 yG 10 7 false (.call (yC 136) [(.v 9)]),
 yG 11 7 false (.nt (.v 10)),
 yO 12 (.pk (.v 7) (yB true) (.v 11)),
 yM 13 12,
 yG 14 13 false (.fa 2 (.v 1))] ++ mkL [1,13,14] ([
 yG 15 13 false (.ld false 1 (.v 14)),
 yG 16 13 false (.call (yC 137) [(.v 15),(yI 0),(yI 1048576)]),
 yG 17 13 false (.nt (.v 16)),
 yO 18 (.pk (.v 13) (yB true) (.v 17)),
 yM 19 18,
 yG 20 19 false (.fa 5 (.v 1)),
 yG 21 19 false (.ld false 1 (.v 20)),
 yG 22 19 false (.call (yC 138) [(.v 21)]),
 yG 23 19 false (.nt (.v 22)),
 yO 24 (.pk (.v 19) (yB true) (.v 23))]))) <|
 .cond (.v 24) (.seq (.ops ([
  yO 2 (.mv (yI 280))])) <|
  .ret) (.nop)) <|
 .seq (.ops ([
 yO 2 (.mv (yI 0))])) <|
 .ret
theorem il113_eq:cFn Tryz.prog pol 113 = some ⟨25,il113c,[(2,none)]⟩:=by kernel_rfl
noncomputable def il114c:C :=
 .seq (.ops ([
 yO 1 (.bx false (.v 0)),
 yO 2 (.mv (yI 0))])) <|
 .seq (.seq (.ops ([
 yF 3 6 1,
 yL 4 1 3,
 yO 5 (.call (yC 137) [(.v 4),(yI 0),(yI 20)]),
 yO 6 (.nt (.v 5))])) <|
 .cond (.v 6) (.seq (.ops ([
  yO 2 (.mv (yI 280))])) <|
  .ret) (.nop)) <|
 .seq (.ops ([
 yF 7 0 1,
 yD 8 6 7,
 yO 9 (.call (yC 113) [(.v 8)]),
 yM 2 9])) <|
 .ret
theorem il114_eq:cFn Tryz.prog pol 114 = some ⟨10,il114c,[(2,none)]⟩:=by kernel_rfl
noncomputable def il115c:C :=
 .nop
theorem il115_eq:cFn Tryz.prog pol 115 = some ⟨2,il115c,[]⟩:=by kernel_rfl
noncomputable def il116c:C :=
 .seq (.ops ([
 yO 4 (.mv (.c yS))])) <|
 .seq (.ops ([
 yM 6 0,
 yO 7 (.lenS (.v 6)),
 yO 8 (.raw (opOf Tryz.prog 116 1 2)),
 yM 5 8])) <|
 .seq (.ops ([
 yM 9 5,
 yM 10 0,
 yO 11 (.raw (opOf Tryz.prog 116 2 2))])) <|
 .seq (.ops ([
 yM 12 1,
 yM 13 5,
 yO 14 (.call (.v 12) [(.v 13)])])) <|
 .seq (.ops ([
 yM 15 5,
 yM 4 15])) <|
 .ret
theorem il116_eq:cFn Tryz.prog pol 116 = some ⟨16,il116c,[(4,none)]⟩:=by kernel_rfl
theorem raw116_1_2 {e:FEnv} {h:Heap}:iStep Tryz.prog pol 116 e h (.raw (opOf Tryz.prog 116 1 2)) = mkSl 1 8 (.sc (.int .i64 0)) h (asNat (Src.get e (.v 7))) (asNat (Src.get e (.v 7))):=raw_makeSlice (t:=26) (l:=(.tmp 7)) (c:=(.tmp 7)) (elem:=3) (by kernel_rfl) (by kernel_rfl) (by kernel_rfl) (by kernel_rfl) (by kernel_rfl) (by kernel_rfl) (by kernel_rfl)
theorem raw116_2_2 {e:FEnv} {h:Heap}:iStep Tryz.prog pol 116 e h (.raw (opOf Tryz.prog 116 2 2)) = cpA 1 (Src.get e (.v 9)) h (elemsOf h 1 (Src.get e (.v 10))):=raw_copy (t:=26) (ts:=[26]) (x:=(.tmp 9)) (y:=(.tmp 10)) (elem:=3) (by kernel_rfl) (by kernel_rfl) (by kernel_rfl) (by kernel_rfl)
noncomputable def il117c:C :=
 .seq (.ops ([
 yO 4 (.mv (.c yS))])) <|
 .seq (.ops ([
 yM 6 0,
 yO 7 (.lenS (.v 6)),
 yO 8 (.raw (opOf Tryz.prog 117 1 2)),
 yM 5 8])) <|
 .seq (.ops ([
 yM 9 5,
 yM 10 0,
 yO 11 (.raw (opOf Tryz.prog 117 2 2))])) <|
 .seq (.ops ([
 yM 12 1,
 yM 13 5,
 yO 14 (.call (.v 12) [(.v 13)])])) <|
 .seq (.ops ([
 yM 15 5,
 yM 4 15])) <|
 .ret
theorem il117_eq:cFn Tryz.prog pol 117 = some ⟨16,il117c,[(4,none)]⟩:=by kernel_rfl
theorem raw117_1_2 {e:FEnv} {h:Heap}:iStep Tryz.prog pol 117 e h (.raw (opOf Tryz.prog 117 1 2)) = mkSl 8 64 (.agg [(.sc (.bool false)),(.sc (.int .i64 0)),(.sc (.int .i64 0)),(.sc (.int .i64 0)),(.sc (.int .i64 0)),(.sc (.int .i64 0)),(.sc (.int .i64 0)),(.sc (.int .i64 0))]) h (asNat (Src.get e (.v 7))) (asNat (Src.get e (.v 7))):=raw_makeSlice (t:=63) (l:=(.tmp 7)) (c:=(.tmp 7)) (elem:=89) (by kernel_rfl) (by kernel_rfl) (by kernel_rfl) (by kernel_rfl) (by kernel_rfl) (by kernel_rfl) (by kernel_rfl)
theorem raw117_2_2 {e:FEnv} {h:Heap}:iStep Tryz.prog pol 117 e h (.raw (opOf Tryz.prog 117 2 2)) = cpA 8 (Src.get e (.v 9)) h (elemsOf h 8 (Src.get e (.v 10))):=raw_copy (t:=63) (ts:=[63]) (x:=(.tmp 9)) (y:=(.tmp 10)) (elem:=89) (by kernel_rfl) (by kernel_rfl) (by kernel_rfl) (by kernel_rfl)
noncomputable def il118l0b:C :=
 .seq (.seq (.ops ([
 yM 7 6,
 yF 8 2 2,
 yL 9 1 8,
 yO 10 (.lenS (.v 9)),
 yO 11 (.bin .mul false (yI 2) (.v 10)),
 yO 12 (.bin .lss false (.v 7) (.v 11))])) <|
 .cond (.v 12) (.nop) (.exit 0)) <|
 .seq (.block 1 (.seq (.ops ([
  yD 15 3 2,
  yM 16 6,
  yO 17 (.call (yC 49) [(.v 15),(.v 16)]),
  yM 18 1,
  yO 19 (.bin .eql false (.v 17) (.v 18))])) <|
  .cond (.v 19) (.ops ([
   yM 20 5,
   yM 21 6,
   yO 22 (.bs false 1 yZ 1 [(0,(.v 21))])] ++ mkL [1,2,6,20,22] ([
   yO 23 (.app 1 8 (.v 20) (.v 22)),
   yO 5 (.gmv 1 (.v 23))]))) (.nop))) <|
 .ops ([
 yM 13 6,
 yO 14 (.bin .add false (.v 13) (yI 1)),
 yM 6 14])
noncomputable def il118l0:C:=il118l0b
theorem il118l0_go {P pol K I n f R e h}:wc P pol K I n f il118l0 R e h = wc P pol K I n f il118l0b R e h:=(fun x=>x) rfl
noncomputable def il118c:C :=
 .seq (.ops ([
 yO 2 (.bx false (.v 0)),
 yO 4 (.mv (.c yS))])) <|
 .seq (.ops ([
 yO 5 (.gmv 1 (.c yS))])) <|
 .seq (.seq (.ops ([
 yO 6 (.mv (yI 0))])) <|
 .block 0 (.loop (some [1,2,5,6]) il118l0)) <|
 .seq (.ops ([
 yM 24 5,
 yM 4 24])) <|
 .ret
theorem il118_eq:cFn Tryz.prog pol 118 = some ⟨25,il118c,[(4,none)]⟩:=by kernel_rfl
noncomputable def il119c:C :=
 .seq (.ops ([
 yO 2 (.bx false (.v 0)),
 yO 4 (.mv (yB false))])) <|
 .seq (.opsD [(1,4),(10,13)] ([
 yF 5 1 2,
 yP 6 5 (.ld false 1 (.v 5)),
 yP 7 2 (.ld true 3 (.v 2)),
 yM 8 1,
 yQ 9 (yC 49) [(.v 7),(.v 8)],
 yO 10 (.iaS 1 (.v 6) (.v 9)),
 yP 11 10 (.ld false 1 (.v 10)),
 yO 12 (.nt (.v 11)),
 yM 13 12,
 yG 14 13 true (.fa 1 (.v 2)),
 ⟨some 15,some (13,true),none,.objs [(.v 14)],.ld false 1 (.v 14)⟩,
 ⟨some 16,some (13,true),none,.objs [(.v 2)],.ld true 3 (.v 2)⟩] ++ mkL [1,13,15,16] ([
 yG 17 13 true (.mv (.v 1)),
 ⟨some 18,some (13,true),none,.cal (yC 54) [(.v 16),(.v 17)],.call (yC 54) [(.v 16),(.v 17)]⟩,
 yG 19 13 true (.iaS 1 (.v 15) (.v 18)),
 ⟨some 20,some (13,true),none,.objs [(.v 19)],.ld false 1 (.v 19)⟩,
 yG 21 13 true (.nt (.v 20)),
 yO 22 (.pk (.v 13) (.v 21) (yB false)),
 yM 4 22]))) <|
 .ret
theorem il119_eq:cFn Tryz.prog pol 119 = some ⟨23,il119c,[(4,none)]⟩:=by kernel_rfl
noncomputable def il120c:C :=
 .seq (.ops ([
 yO 1 (.bx false (.v 0)),
 yO 2 (.mv (.c (.sc .nilFunc)))])) <|
 .seq (.ops ([
 yO 3 (.fn 139 [] [(.v 1)]),
 yM 2 3])) <|
 .ret
theorem il120_eq:cFn Tryz.prog pol 120 = some ⟨4,il120c,[(2,none)]⟩:=by kernel_rfl
noncomputable def il121c:C :=
 .seq (.ops ([
 yO 2 (.bx false (.v 0)),
 yO 4 (.nw 6 (.agg [yZ,yZ,yZ,yZ,yZ,yZ]))])) <|
 .seq (.opsD [] ([
 yF 5 5 2,
 yF 6 0 5,
 yP 7 6 (.ld true 2 (.v 6)),
 yF 8 5 2,
 yF 9 2 8,
 yP 10 9 (.ld false 1 (.v 9)),
 yF 11 0 2,
 yF 12 0 11,
 yP 13 12 (.ld true 2 (.v 12)),
 yF 14 0 2,
 yF 15 2 14,
 yP 16 15 (.ld false 1 (.v 15))] ++ mkL [1,4,7,10,13,16] ([
 yM 17 1,
 yO 18 (.iaS 1 (.v 16) (.v 17)),
 yP 19 18 (.ld false 1 (.v 18)),
 yO 20 (.bd [yZ,yZ,yZ,yZ,yZ,yZ] [(0,2,(.v 7)),(2,1,(.v 10)),(3,2,(.v 13)),(5,1,(.v 19))]),
 yT 4 (.st 6 (.v 4) (.v 20))]))) <|
 .ret
theorem il121_eq:cFn Tryz.prog pol 121 = some ⟨21,il121c,[(4,some (true,6))]⟩:=by kernel_rfl
noncomputable def il122c:C :=
 .seq (.ops ([
 yO 1 (.bx false (.v 0)),
 yO 2 (.mv (.c (.sc .nilFunc)))])) <|
 .seq (.ops ([
 yO 3 (.fn 141 [] [(.v 1)]),
 yM 2 3])) <|
 .ret
theorem il122_eq:cFn Tryz.prog pol 122 = some ⟨4,il122c,[(2,none)]⟩:=by kernel_rfl
noncomputable def il123c:C :=
 .opsD [] ([
 yP 7 3 (.ld false 1 (.v 3)),
 yM 8 0,
 yP 9 3 (.ld false 1 (.v 3)),
 yM 10 0,
 yO 11 (.iaS 1 (.v 9) (.v 10)),
 yP 12 11 (.ld false 1 (.v 11)),
 yP 13 3 (.ld false 1 (.v 3)),
 yM 14 1,
 yO 15 (.iaS 1 (.v 13) (.v 14)),
 yP 16 15 (.ld false 1 (.v 15)),
 yM 17 2,
 yO 18 (.bin .add false (.v 16) (.v 17)),
 yO 19 (.mnx false (.v 12) (.v 18)),
 yO 20 (.iaS 1 (.v 7) (.v 8))] ++ mkL [19,20] ([
 yT 20 (.st 1 (.v 20) (.v 19))]))
theorem il123_eq:cFn Tryz.prog pol 123 = some ⟨21,il123c,[]⟩:=by kernel_rfl
noncomputable def il124c:C :=
 .seq (.ops ([
 yO 1 (.bx false (.v 0)),
 yO 2 (.nw 6 (.agg [yZ,yZ,yZ,yZ,yZ,yZ]))])) <|
 .seq (.ops ([
 yF 3 0 1,
 yF 4 0 3,
 yL 5 1 4,
 yF 6 0 1,
 yF 7 1 6,
 yL 8 1 7,
 yF 9 2 1,
 yL 10 1 9,
 yF 11 3 1,
 yF 12 0 11,
 yL 13 1 12,
 yF 14 3 1] ++ mkL [1,2,5,8,10,13,14] ([
 yF 15 1 14,
 yL 16 1 15,
 yF 17 5 1,
 yL 18 1 17,
 yO 19 (.bd [yZ,yZ,yZ,yZ,yZ,yZ] [(0,1,(.v 5)),(1,1,(.v 8)),(2,1,(.v 10)),(3,1,(.v 13)),(4,1,(.v 16)),(5,1,(.v 18))]),
 yN (.st 6 (.v 2) (.v 19))]))) <|
 .ret
theorem il124_eq:cFn Tryz.prog pol 124 = some ⟨20,il124c,[(2,some (true,6))]⟩:=by kernel_rfl
noncomputable def il125c:C :=
 .seq (.ops ([
 yO 4 (.mv (yI 0))])) <|
 .seq (.ops ([
 yM 7 0,
 yO 8 (.call (yC 142) [(.v 7)]),
 yM 5 8])) <|
 .seq (.ops ([
 yM 9 1,
 yO 10 (.call (yC 142) [(.v 9)]),
 yM 6 10])) <|
 .seq (.seq (.ops ([
 yM 11 5])) <|
 .cond (.v 11) (.seq (.seq (.ops ([
  yM 12 6])) <|
  .cond (.v 12) (.seq (.ops ([
   yO 4 (.mv (yI 0))])) <|
   .ret) (.nop)) <|
  .seq (.ops ([
  yO 4 (.mv (yI (-1)))])) <|
  .ret) (.nop)) <|
 .seq (.seq (.ops ([
 yM 13 6])) <|
 .cond (.v 13) (.seq (.ops ([
  yO 4 (.mv (yI 1))])) <|
  .ret) (.nop)) <|
 .seq (.seq (.ops ([
 yM 14 0] ++ mkL [0,1,14] ([
 yM 15 1,
 yO 16 (.bin .lss false (.v 14) (.v 15))]))) <|
 .cond (.v 16) (.seq (.ops ([
  yO 4 (.mv (yI (-1)))])) <|
  .ret) (.nop)) <|
 .seq (.seq (.ops ([
 yM 17 0,
 yM 18 1,
 yO 19 (.bin .gtr false (.v 17) (.v 18))])) <|
 .cond (.v 19) (.seq (.ops ([
  yO 4 (.mv (yI 1))])) <|
  .ret) (.nop)) <|
 .seq (.ops ([
 yO 4 (.mv (yI 0))])) <|
 .ret
theorem il125_eq:cFn Tryz.prog pol 125 = some ⟨20,il125c,[(4,none)]⟩:=by kernel_rfl
noncomputable def il128l0b:C :=
 .seq (.ops ([
 yO 15 (.bin .lss false (.v 14) (.v 13))])) <|
 .seq (.cond (.v 15) (.nop) (.exit 0)) <|
 .seq (.block 1 (.seq (.ops ([
  yM 16 14,
  yM 6 16])) <|
  .ops ([
  yM 17 5,
  yM 18 6,
  yM 19 1,
  yM 20 6,
  yO 21 (.call (.v 19) [(.v 20)]),
  yO 22 (.iaS 8 (.v 17) (.v 18)),
  yN (.st 8 (.v 22) (.v 21))]))) <|
 .ops ([
 yO 23 (.bin .add false (.v 14) (yI 1)),
 yM 14 23])
noncomputable def il128l0:C:=il128l0b
theorem il128l0_go {P pol K I n f R e h}:wc P pol K I n f il128l0 R e h = wc P pol K I n f il128l0b R e h:=(fun x=>x) rfl
noncomputable def il128c:C :=
 .seq (.ops ([
 yO 2 (.bx false (.v 0)),
 yO 4 (.mv (.c yS))])) <|
 .seq (.ops ([
 yF 7 0 2,
 yF 8 2 7,
 yL 9 1 8,
 yO 10 (.lenS (.v 9)),
 yO 11 (.raw (opOf Tryz.prog 128 1 4)),
 yM 5 11])) <|
 .seq (.seq (.ops ([
 yM 12 5,
 yO 13 (.lenS (.v 12)),
 yO 14 (.mv (yI 0))])) <|
 .block 0 (.loop (some [1,5,13,14]) il128l0)) <|
 .seq (.ops ([
 yM 24 5,
 yM 4 24])) <|
 .ret
theorem il128_eq:cFn Tryz.prog pol 128 = some ⟨25,il128c,[(4,none)]⟩:=by kernel_rfl
theorem raw128_1_4 {e:FEnv} {h:Heap}:iStep Tryz.prog pol 128 e h (.raw (opOf Tryz.prog 128 1 4)) = mkSl 8 64 (.agg [(.sc (.bool false)),(.sc (.int .i64 0)),(.sc (.int .i64 0)),(.sc (.int .i64 0)),(.sc (.int .i64 0)),(.sc (.int .i64 0)),(.sc (.int .i64 0)),(.sc (.int .i64 0))]) h (asNat (Src.get e (.v 10))) (asNat (Src.get e (.v 10))):=raw_makeSlice (t:=63) (l:=(.tmp 10)) (c:=(.tmp 10)) (elem:=89) (by kernel_rfl) (by kernel_rfl) (by kernel_rfl) (by kernel_rfl) (by kernel_rfl) (by kernel_rfl) (by kernel_rfl)
noncomputable def il129c:C :=
 .seq (.ops ([
 yO 2 (.bx false (.v 0)),
 yO 4 (.nw 8 (.agg [(.sc (.bool false)),yZ,yZ,yZ,yZ,yZ,yZ,yZ]))])) <|
 .seq (.seq (.ops ([
 yD 5 10 2,
 yM 6 1,
 yO 7 (.call (yC 87) [(.v 5),(.v 6)]),
 yO 8 (.bin .neq false (.v 7) (yI 2))])) <|
 .cond (.v 8) (.seq (.ops ([
  yO 9 (.bd [(.sc (.bool false)),yZ,yZ,yZ,yZ,yZ,yZ,yZ] []),
  yN (.st 8 (.v 4) (.v 9))])) <|
  .ret) (.nop)) <|
 .seq (.opsD [(2,5)] ([
 yP 10 2 (.ld true 10 (.v 2)),
 yM 11 1,
 yQ 12 (yC 121) [(.v 10),(.v 11)],
 yF 13 5 2,
 yF 14 4 13,
 yP 15 14 (.ld false 1 (.v 14))] ++ mkL [4,12,15] ([
 yO 16 (.bd [yZ,yZ,yZ,yZ,yZ,yZ,yZ] [(0,6,(.v 12)),(6,1,(.v 15))]),
 yO 17 (.bd [(.sc (.bool false)),yZ,yZ,yZ,yZ,yZ,yZ,yZ] [(0,1,(yB true)),(1,7,(.v 16))]),
 yT 4 (.st 8 (.v 4) (.v 17))]))) <|
 .ret
theorem il129_eq:cFn Tryz.prog pol 129 = some ⟨18,il129c,[(4,some (true,8))]⟩:=by kernel_rfl
noncomputable def il130c:C :=
 .seq (.ops ([
 yM 6 0,
 yL 7 1 1,
 yO 8 (.iaS 8 (.v 6) (.v 7)),
 yF 9 1 8,
 yF 10 0 9,
 yD 11 6 10,
 yO 4 (.nw 6 (.agg [yZ,yZ,yZ,yZ,yZ,yZ])),
 yN (.st 6 (.v 4) (.v 11))])) <|
 .seq (.ops ([
 yF 12 3 4,
 yD 13 2 12,
 yF 14 0 2,
 yF 15 3 14,
 yD 16 2 15,
 yO 17 (.raw (opOf Tryz.prog 130 1 5))] ++ mkL [0,1,2,4,17] ([
 yM 18 17,
 yG 19 18 true (.fa 5 (.v 4)),
 yG 20 18 true (.ld false 1 (.v 19)),
 yG 21 18 true (.fa 0 (.v 2)),
 yG 22 18 true (.fa 5 (.v 21)),
 yG 23 18 true (.ld false 1 (.v 22)),
 yG 24 18 true (.bin .eql false (.v 20) (.v 23)),
 yO 25 (.pk (.v 18) (.v 24) (yB false)),
 yM 5 25]))) <|
 .seq (.ops ([
 yM 26 0,
 yL 27 1 1,
 yO 28 (.iaS 8 (.v 26) (.v 27)),
 yF 29 0 28,
 yL 30 1 29] ++ mkL [0,1,2,4,5,30] ([
 yO 31 (.nt (.v 30)),
 yM 32 31,
 yG 33 32 false (.mv (.v 5)),
 yO 34 (.pk (.v 32) (yB true) (.v 33)),
 yM 35 34,
 yG 36 35 false (.fa 0 (.v 2)),
 yG 37 35 false (.ld true 6 (.v 36)),
 yG 38 35 false (.ld true 6 (.v 4)),
 yG 39 35 false (.call (yC 91) [(.v 37),(.v 38)]),
 yG 40 35 false (.bin .leq false (.v 39) (yI 0)),
 yO 41 (.pk (.v 35) (yB true) (.v 40))]))) <|
 .cond (.v 41) (.ops ([
  yM 42 0,
  yL 43 1 1,
  yD 44 7 2] ++ mkL [42,43,44] ([
  yO 45 (.bd [(.sc (.bool false)),yZ,yZ,yZ,yZ,yZ,yZ,yZ] [(0,1,(yB true)),(1,7,(.v 44))]),
  yO 46 (.iaS 8 (.v 42) (.v 43)),
  yN (.st 8 (.v 46) (.v 45))]))) (.nop)
theorem il130_eq:cFn Tryz.prog pol 130 = some ⟨47,il130c,[]⟩:=by kernel_rfl
theorem raw130_1_5 {e:FEnv} {h:Heap}:iStep Tryz.prog pol 130 e h (.raw (opOf Tryz.prog 130 1 5)) = vOf h (binE Tryz.prog false 62 (.tmp 13) (.tmp 16) (Src.get e (.v 13)) (Src.get e (.v 16))):=raw_eql (x:=(.tmp 13)) (y:=(.tmp 16)) (s:=62) (by kernel_rfl)
noncomputable def il131l0b:C :=
 .seq (.ops ([
 yO 7 (.bin .lss false (.v 6) (.v 5))])) <|
 .seq (.cond (.v 7) (.nop) (.exit 0)) <|
 .seq (.block 1 (.seq (.ops ([
  yM 8 6,
  yO 9 (.iaS 8 (.v 4) (.v 6)),
  yD 10 8 9,
  yO 3 (.nw 8 (.agg [(.sc (.bool false)),yZ,yZ,yZ,yZ,yZ,yZ,yZ])),
  yM 2 8,
  yN (.st 8 (.v 3) (.v 10))])) <|
  .seq (.seq (.ops ([
  yF 11 0 3,
  yL 12 1 11,
  yO 13 (.nt (.v 12))])) <|
  .cond (.v 13) (.exit 1) (.nop)) <|
  .seq (.ops ([
  yF 14 1 3,
  yF 15 6 14,
  yL 16 1 15,
  yO 17 (.bin .add false (.v 16) (yI 1))] ++ mkL [0,2,3,4,5,6,17] ([
  yF 18 1 3,
  yF 19 6 18,
  yN (.st 1 (.v 19) (.v 17))]))) <|
  .seq (.seq (.ops ([
  yF 20 1 3,
  yF 21 6 20,
  yL 22 1 21,
  yO 23 (.bin .gtr false (.v 22) (yI 20))])) <|
  .cond (.v 23) (.ops ([
   yO 24 (.bd [(.sc (.bool false)),yZ,yZ,yZ,yZ,yZ,yZ,yZ] []),
   yN (.st 8 (.v 3) (.v 24))])) (.nop)) <|
  .ops ([
  yM 25 0,
  yM 26 2,
  yD 27 8 3,
  yO 28 (.iaS 8 (.v 25) (.v 26)),
  yN (.st 8 (.v 28) (.v 27))]))) <| mkC [0,4,5,6] <|
 .ops ([
 yO 29 (.bin .add false (.v 6) (yI 1)),
 yM 6 29])
noncomputable def il131l0:C:=il131l0b
theorem il131l0_go {P pol K I n f R e h}:wc P pol K I n f il131l0 R e h = wc P pol K I n f il131l0b R e h:=(fun x=>x) rfl
noncomputable def il131c:C :=
 .seq (.ops ([
 yM 4 0,
 yO 5 (.lenS (.v 4)),
 yO 6 (.mv (yI 0))])) <|
 .block 0 (.loop (some [0,4,5,6]) il131l0)
theorem il131_eq:cFn Tryz.prog pol 131 = some ⟨30,il131c,[]⟩:=by kernel_rfl
noncomputable def il132c:C :=
 .seq (.ops ([
 yO 1 (.bx false (.v 0)),
 yO 2 (.mv (.c (.sc .nilFunc)))])) <|
 .seq (.ops ([
 yO 3 (.fn 143 [] [(.v 1)]),
 yM 2 3])) <|
 .ret
theorem il132_eq:cFn Tryz.prog pol 132 = some ⟨4,il132c,[(2,none)]⟩:=by kernel_rfl
noncomputable def il133c:C :=
 .seq (.ops ([
 yO 1 (.bx false (.v 0)),
 yO 2 (.mv (yI 0))])) <|
 .seq (.seq (.ops ([
 yF 3 4 1,
 yL 4 1 3,
 yO 5 (.bin .rem false (.v 4) (yI 2)),
 yO 6 (.bin .eql false (.v 5) (yI 0))])) <|
 .cond (.v 6) (.seq (.ops ([
  yF 7 0 1,
  yF 8 0 7,
  yL 9 1 8,
  yM 2 9])) <|
  .ret) (.nop)) <|
 .seq (.ops ([
 yF 10 0 1,
 yF 11 1 10,
 yL 12 1 11,
 yM 2 12])) <|
 .ret
theorem il133_eq:cFn Tryz.prog pol 133 = some ⟨13,il133c,[(2,none)]⟩:=by kernel_rfl
noncomputable def il134c:C :=
 .seq (.ops ([
 yO 3 (.bx false (.v 0)),
 yO 6 (.mv (yI 0)),
 yO 7 (.mv (yI 0))])) <|
 .seq (.ops ([
 yO 8 (.mv (yI 0))])) <|
 .seq (.seq (.ops ([
 yD 10 3 3,
 yO 11 (.call (yC 28) [(.v 10)]),
 yM 9 11])) <|
 .seq (.ops ([
 yM 12 9,
 yO 13 (.bin .neq false (.v 12) (yI 0))])) <|
 .cond (.v 13) (.seq (.ops ([
  yM 14 8,
  yM 15 9,
  yM 6 14,
  yM 7 15])) <|
  .ret) (.nop)) <|
 .seq (.seq (.ops ([
 yM 16 1] ++ mkL [1,2,3,8,16] ([
 yO 17 (.bin .lss false (.v 16) (yI 0)),
 yM 18 17,
 yG 19 18 false (.mv (.v 1)),
 yG 20 18 false (.fa 2 (.v 3)),
 yG 21 18 false (.ld false 1 (.v 20)),
 yG 22 18 false (.lenS (.v 21)),
 yG 23 18 false (.bin .mul false (yI 2) (.v 22)),
 yG 24 18 false (.bin .geq false (.v 19) (.v 23)),
 yO 25 (.pk (.v 18) (yB true) (.v 24))]))) <|
 .cond (.v 25) (.seq (.ops ([
  yM 26 8,
  yM 6 26,
  yO 7 (.mv (yI 2))])) <|
  .ret) (.nop)) <|
 .seq (.ops ([
 yM 27 2,
 yF 28 2 3] ++ mkL [1,27,28] ([
 yL 29 1 28,
 yM 30 1,
 yO 31 (.bin .quo false (.v 30) (yI 2)),
 yO 32 (.iaS 4 (.v 29) (.v 31)),
 yD 33 4 32,
 yM 34 1,
 yO 35 (.bd [yZ,yZ,yZ,yZ,yZ] [(0,4,(.v 33)),(4,1,(.v 34))]),
 yO 36 (.call (.v 27) [(.v 35)]),
 yM 6 36,
 yO 7 (.mv (yI 0))]))) <|
 .ret
theorem il134_eq:cFn Tryz.prog pol 134 = some ⟨37,il134c,[(6,none),(7,none)]⟩:=by kernel_rfl
noncomputable def il135c:C :=
 .seq (.ops ([
 yO 1 (.bx false (.v 0)),
 yO 2 (.mv (yI 0))])) <|
 .seq (.seq (.ops ([
 yF 3 4 1,
 yL 4 1 3,
 yO 5 (.bin .rem false (.v 4) (yI 2)),
 yO 6 (.bin .eql false (.v 5) (yI 0))])) <|
 .cond (.v 6) (.seq (.ops ([
  yF 7 0 1,
  yF 8 1 7,
  yL 9 1 8,
  yM 2 9])) <|
  .ret) (.nop)) <|
 .seq (.ops ([
 yF 10 0 1,
 yF 11 0 10,
 yL 12 1 11,
 yM 2 12])) <|
 .ret
theorem il135_eq:cFn Tryz.prog pol 135 = some ⟨13,il135c,[(2,none)]⟩:=by kernel_rfl
noncomputable def il136c:C :=
 .seq (.ops ([
 yO 1 (.bx false (.v 0)),
 yO 2 (.mv (yB false))])) <|
 .seq (.ops ([
 yF 3 0 1,
 yL 4 1 3,
 yO 5 (.call (yC 137) [(.v 4),(yI 0),(yI 15)]),
 yM 6 5,
 yG 7 6 true (.fa 1 (.v 1)),
 yG 8 6 true (.ld false 1 (.v 7)),
 yG 9 6 true (.call (yC 137) [(.v 8),(yI 0),(yI 11)]),
 yO 10 (.pk (.v 6) (.v 9) (yB false)),
 yM 2 10])) <|
 .ret
theorem il136_eq:cFn Tryz.prog pol 136 = some ⟨11,il136c,[(2,none)]⟩:=by kernel_rfl
noncomputable def il137c:C :=
 .seq (.ops ([
 yO 6 (.mv (yB false))])) <|
 .seq (.ops ([
 yM 7 0,
 yM 8 1,
 yO 9 (.bin .geq false (.v 7) (.v 8)),
 yM 10 9,
 yG 11 10 true (.mv (.v 0)),
 yG 12 10 true (.mv (.v 2)),
 yG 13 10 true (.bin .leq false (.v 11) (.v 12)),
 yO 14 (.pk (.v 10) (.v 13) (yB false)),
 yM 6 14])) <|
 .ret
theorem il137_eq:cFn Tryz.prog pol 137 = some ⟨15,il137c,[(6,none)]⟩:=by kernel_rfl
noncomputable def il138c:C :=
 .seq (.ops ([
 yO 2 (.mv (yB false))])) <|
 .seq (.ops ([
 yM 3 0,
 yO 4 (.call (yC 137) [(.v 3),(yI 0),(yI 47)]),
 yM 2 4])) <|
 .ret
theorem il138_eq:cFn Tryz.prog pol 138 = some ⟨5,il138c,[(2,none)]⟩:=by kernel_rfl
noncomputable def il139l0b:C :=
 .seq (.ops ([
 yO 11 (.bin .lss false (.v 10) (.v 9))])) <|
 .seq (.cond (.v 11) (.nop) (.exit 0)) <|
 .seq (.block 1 (.seq (.ops ([
  yM 12 10,
  yO 13 (.iaS 8 (.v 8) (.v 10)),
  yD 14 8 13,
  yO 4 (.nw 8 (.agg [(.sc (.bool false)),yZ,yZ,yZ,yZ,yZ,yZ,yZ])),
  yM 3 12,
  yN (.st 8 (.v 4) (.v 14))])) <|
  .seq (.ops ([
  yF 15 1 4,
  yF 16 0 15,
  yD 17 6 16,
  yO 5 (.nw 6 (.agg [yZ,yZ,yZ,yZ,yZ,yZ])),
  yN (.st 6 (.v 5) (.v 17))])) <|
  .seq (.opsD [] ([
  yF 18 2 5,
  yP 19 18 (.ld false 1 (.v 18))] ++ mkL [0,1,3,4,5,8,9,10,19] ([
  yF 20 0 1,
  yF 21 3 20,
  yP 22 21 (.ld false 1 (.v 21)),
  yM 23 3,
  yO 24 (.iaS 1 (.v 22) (.v 23)),
  yP 25 24 (.ld false 1 (.v 24)),
  yO 26 (.bin .add false (.v 19) (.v 25)),
  yF 27 2 5,
  yT 27 (.st 1 (.v 27) (.v 26))]))) <|
  .seq (.seq (.ops ([
  yF 28 0 4,
  yL 29 1 28,
  yO 30 (.nt (.v 29)),
  yM 31 30,
  yG 32 31 false (.fa 2 (.v 5))] ++ mkL [0,1,3,5,8,9,10,31,32] ([
  yG 33 31 false (.ld false 1 (.v 32)),
  yG 34 31 false (.bin .gtr false (.v 33) (yI 1048576)),
  yO 35 (.pk (.v 31) (yB true) (.v 34)),
  yM 36 35,
  yG 37 36 false (.fa 0 (.v 5)),
  yG 38 36 false (.ld true 2 (.v 37)),
  yG 39 36 false (.fa 0 (.v 1)),
  yG 40 36 false (.fa 0 (.v 39)),
  yG 41 36 false (.ld true 2 (.v 40)),
  yG 42 36 false (.call (yC 140) [(.v 38),(.v 41)]),
  yG 43 36 false (.nt (.v 42)),
  yO 44 (.pk (.v 36) (yB true) (.v 43))]))) <|
  .cond (.v 44) (.exit 1) (.nop)) <|
  .seq (.ops ([
  yM 45 0,
  yM 46 3] ++ mkL [0,1,5,8,9,10,45,46] ([
  yD 47 6 5,
  yO 48 (.call (.v 45) [(.v 46),(.v 47)]),
  yO 49 (.nt (.v 48))]))) <|
  .cond (.v 49) (.exit 0) (.nop))) <|
 .ops ([
 yO 50 (.bin .add false (.v 10) (yI 1)),
 yM 10 50])
noncomputable def il139l0:C:=il139l0b
theorem il139l0_go {P pol K I n f R e h}:wc P pol K I n f il139l0 R e h = wc P pol K I n f il139l0b R e h:=(fun x=>x) rfl
noncomputable def il139c:C :=
 .seq (.nop) <|
 .seq (.ops ([
 yF 6 0 1,
 yF 7 4 6,
 yL 8 1 7,
 yO 9 (.lenS (.v 8)),
 yO 10 (.mv (yI 0))])) <|
 .block 0 (.loop (some [0,1,8,9,10]) il139l0)
theorem il139_eq:cFn Tryz.prog pol 139 = some ⟨51,il139c,[]⟩:=by kernel_rfl
noncomputable def il140c:C :=
 .seq (.ops ([
 yO 2 (.bx false (.v 0)),
 yO 3 (.bx false (.v 1)),
 yO 4 (.mv (yB false))])) <|
 .seq (.ops ([
 yD 5 2 2,
 yO 6 (.bd [yZ,yZ,yZ,yZ,yZ,yZ] [(0,2,(.v 5))]),
 yD 7 2 3,
 yO 8 (.bd [yZ,yZ,yZ,yZ,yZ,yZ] [(0,2,(.v 7))]),
 yO 9 (.call (yC 91) [(.v 6),(.v 8)]),
 yO 10 (.bin .lss false (.v 9) (yI 0)),
 yM 4 10])) <|
 .ret
theorem il140_eq:cFn Tryz.prog pol 140 = some ⟨11,il140c,[(4,none)]⟩:=by kernel_rfl
noncomputable def il141l0b:C :=
 .seq (.ops ([
 yO 11 (.bin .lss false (.v 10) (.v 9))])) <|
 .seq (.cond (.v 11) (.nop) (.exit 0)) <|
 .seq (.block 1 (.seq (.ops ([
  yM 12 10,
  yO 13 (.iaS 4 (.v 8) (.v 10)),
  yD 14 4 13,
  yO 4 (.nw 4 (.agg [yZ,yZ,yZ,yZ])),
  yM 3 12,
  yN (.st 4 (.v 4) (.v 14))])) <|
  .seq (.seq (.ops ([
  yF 15 0 1,
  yF 16 4 15,
  yL 17 1 16,
  yM 18 3,
  yO 19 (.iaS 1 (.v 17) (.v 18)),
  yL 20 1 19,
  yM 21 20] ++ mkL [0,1,4,8,9,10,21] ([
  yG 22 21 false (.fa 0 (.v 1)),
  yG 23 21 false (.fa 0 (.v 22)),
  yG 24 21 false (.fa 1 (.v 23)),
  yG 25 21 false (.ld false 1 (.v 24)),
  yG 26 21 false (.fa 0 (.v 4)),
  yG 27 21 false (.ld false 1 (.v 26)),
  yG 28 21 false (.iaS 1 (.v 25) (.v 27)),
  yG 29 21 false (.ld false 1 (.v 28)),
  yO 30 (.pk (.v 21) (yB true) (.v 29)),
  yM 31 30,
  yG 32 31 false (.fa 0 (.v 1)),
  yG 33 31 false (.fa 0 (.v 32)),
  yG 34 31 false (.fa 1 (.v 33)),
  yG 35 31 false (.ld false 1 (.v 34))] ++ mkL [0,1,4,8,9,10,31,35] ([
  yG 36 31 false (.fa 1 (.v 4)),
  yG 37 31 false (.ld false 1 (.v 36)),
  yG 38 31 false (.iaS 1 (.v 35) (.v 37)),
  yG 39 31 false (.ld false 1 (.v 38)),
  yO 40 (.pk (.v 31) (yB true) (.v 39))])))) <|
  .cond (.v 40) (.exit 1) (.nop)) <|
  .seq (.ops ([
  yM 41 0,
  yD 42 4 4,
  yO 43 (.call (.v 41) [(.v 42)]),
  yO 44 (.nt (.v 43))])) <|
  .cond (.v 44) (.ret) (.nop))) <|
 .ops ([
 yO 45 (.bin .add false (.v 10) (yI 1)),
 yM 10 45])
noncomputable def il141l0:C:=il141l0b
theorem il141l0_go {P pol K I n f R e h}:wc P pol K I n f il141l0 R e h = wc P pol K I n f il141l0b R e h:=(fun x=>x) rfl
noncomputable def il141c:C :=
 .seq (.ops ([
 yF 5 0 1,
 yF 6 0 5,
 yF 7 2 6,
 yL 8 1 7,
 yO 9 (.lenS (.v 8)),
 yO 10 (.mv (yI 0))])) <|
 .block 0 (.loop (some [0,1,8,9,10]) il141l0)
theorem il141_eq:cFn Tryz.prog pol 141 = some ⟨46,il141c,[]⟩:=by kernel_rfl
noncomputable def il142c:C :=
 .seq (.ops ([
 yO 2 (.mv (yB false))])) <|
 .seq (.ops ([
 yM 3 0,
 yM 4 0,
 yO 5 (.bin .neq false (.v 3) (.v 4)),
 yM 2 5])) <|
 .ret
theorem il142_eq:cFn Tryz.prog pol 142 = some ⟨6,il142c,[(2,none)]⟩:=by kernel_rfl
noncomputable def il143l0b:C :=
 .seq (.ops ([
 yO 9 (.bin .lss false (.v 8) (.v 7))])) <|
 .seq (.cond (.v 9) (.nop) (.exit 0)) <|
 .seq (.block 1 (.seq (.ops ([
  yM 10 8,
  yO 11 (.iaS 4 (.v 6) (.v 8)),
  yD 12 4 11,
  yO 4 (.nw 4 (.agg [yZ,yZ,yZ,yZ])),
  yM 3 10,
  yN (.st 4 (.v 4) (.v 12))])) <|
  .seq (.ops ([
  yM 13 0,
  yD 14 4 4,
  yM 15 3,
  yO 16 (.bin .mul false (yI 2) (.v 15)),
  yO 17 (.bd [yZ,yZ,yZ,yZ,yZ] [(0,4,(.v 14)),(4,1,(.v 16))]),
  yO 18 (.call (.v 13) [(.v 17)]),
  yO 19 (.nt (.v 18))] ++ mkL [0,3,4,6,7,8,19] ([
  yM 20 19,
  yG 21 20 false (.mv (.v 0)),
  yG 22 20 false (.ld true 4 (.v 4)),
  yG 23 20 false (.mv (.v 3)),
  yG 24 20 false (.bin .mul false (yI 2) (.v 23)),
  yG 25 20 false (.bin .add false (.v 24) (yI 1)),
  yG 26 20 false (.bd [yZ,yZ,yZ,yZ,yZ] [(0,4,(.v 22)),(4,1,(.v 25))]),
  yG 27 20 false (.call (.v 21) [(.v 26)]),
  yG 28 20 false (.nt (.v 27)),
  yO 29 (.pk (.v 20) (yB true) (.v 28))]))) <|
  .cond (.v 29) (.ret) (.nop))) <|
 .ops ([
 yO 30 (.bin .add false (.v 8) (yI 1)),
 yM 8 30])
noncomputable def il143l0:C:=il143l0b
theorem il143l0_go {P pol K I n f R e h}:wc P pol K I n f il143l0 R e h = wc P pol K I n f il143l0b R e h:=(fun x=>x) rfl
noncomputable def il143c:C :=
 .seq (.ops ([
 yF 5 2 1,
 yL 6 1 5,
 yO 7 (.lenS (.v 6)),
 yO 8 (.mv (yI 0))])) <|
 .block 0 (.loop (some [0,6,7,8]) il143l0)
theorem il143_eq:cFn Tryz.prog pol 143 = some ⟨31,il143c,[]⟩:=by kernel_rfl
attribute [go_sem] eqT62
attribute [go_sem] eqT89
attribute [go_sem] eqT26
attribute [go_sem] eqT22
attribute [go_sem] eqT23
attribute [go_sem] eqT63
attribute [go_sem] eqT70
attribute [go_sem] eqT85
attribute [go_sem] raw8_6_5
attribute [go_sem] raw8_6_8
attribute [go_sem] raw9_3_2
attribute [go_sem] raw13_1_5
attribute [go_sem] raw13_1_7
attribute [go_sem] raw13_1_8
attribute [go_sem] raw16_4_3
attribute [go_sem] raw28_5_2
attribute [go_sem] raw30_4_3
attribute [go_sem] raw30_5_4
attribute [go_sem] raw33_1_5
attribute [go_sem] raw37_1_2
attribute [go_sem] raw39_3_8
attribute [go_sem] raw39_3_9
attribute [go_sem] raw39_8_3
attribute [go_sem] raw40_3_3
attribute [go_sem] raw40_5_9
attribute [go_sem] raw42_1_6
attribute [go_sem] raw45_3_4
attribute [go_sem] raw45_8_7
attribute [go_sem] raw47_1_4
attribute [go_sem] raw47_16_10
attribute [go_sem] raw59_1_8
attribute [go_sem] raw69_1_2
attribute [go_sem] raw70_1_1
attribute [go_sem] raw71_1_1
attribute [go_sem] raw72_1_1
attribute [go_sem] raw73_1_1
attribute [go_sem] raw77_14_15
attribute [go_sem] raw82_11_10
attribute [go_sem] raw86_1_4
attribute [go_sem] raw88_1_4
attribute [go_sem] raw89_1_4
attribute [go_sem] raw89_5_7
attribute [go_sem] raw91_1_2
attribute [go_sem] raw116_1_2
attribute [go_sem] raw116_2_2
attribute [go_sem] raw117_1_2
attribute [go_sem] raw117_2_2
attribute [go_sem] raw128_1_4
attribute [go_sem] raw130_1_5
end Go.Proofs.YtbibdnlbpjnieaaGreat
