/- Part 11 of the proof of TreeKnown. -/
import Derived.Test.YtbibdnlbpjnieaaK10
set_option linter.all false
set_option maxRecDepth 100000
set_option maxHeartbeats 4000000
namespace Go.Proofs.Ytbibdnlbpjnieaa
open Go Go.Abs
theorem eqT32:isSliceT Try.prog 32 = true:=by kernel_rfl
theorem eqT51:isSliceT Try.prog 51 = true:=by kernel_rfl
theorem eqT50 {a0 b0:Int} {a1 b1:Int}:aEq Try.prog 50 (.t (.agg [.sc (.int .i64 a0),.sc (.int .i64 a1)])) (.t (.agg [.sc (.int .i64 b0),.sc (.int .i64 b1)])) = some (decide (a0 = b0 ∧ a1 = b1)) :=
 (show aEq Try.prog 50 (.t (.agg [.sc (.int .i64 a0),.sc (.int .i64 a1)])) (.t (.agg [.sc (.int .i64 b0),.sc (.int .i64 b1)])) = some ((a0 == b0) && ((a1 == b1) && true)) by kernel_rfl).trans (by congr 1; rw [Bool.eq_iff_iff]; simp [and_assoc])
theorem eqT55 {a0 b0:Int} {a1 b1:Int} {a2 b2:Int} {a3 b3:Int} {a4 b4:Int} {a5 b5:Int}:aEq Try.prog 55 (.t (.agg [.sc (.int .i64 a0),.sc (.int .i64 a1),.sc (.int .i64 a2),.sc (.int .i64 a3),.sc (.int .i64 a4),.sc (.int .i64 a5)])) (.t (.agg [.sc (.int .i64 b0),.sc (.int .i64 b1),.sc (.int .i64 b2),.sc (.int .i64 b3),.sc (.int .i64 b4),.sc (.int .i64 b5)])) = some (decide (a0 = b0 ∧ a1 = b1 ∧ a2 = b2 ∧ a3 = b3 ∧ a4 = b4 ∧ a5 = b5)) :=
 (show aEq Try.prog 55 (.t (.agg [.sc (.int .i64 a0),.sc (.int .i64 a1),.sc (.int .i64 a2),.sc (.int .i64 a3),.sc (.int .i64 a4),.sc (.int .i64 a5)])) (.t (.agg [.sc (.int .i64 b0),.sc (.int .i64 b1),.sc (.int .i64 b2),.sc (.int .i64 b3),.sc (.int .i64 b4),.sc (.int .i64 b5)])) = some (((a0 == b0) && ((a1 == b1) && true)) && ((a2 == b2) && (((a3 == b3) && ((a4 == b4) && true)) && ((a5 == b5) && true)))) by kernel_rfl).trans (by congr 1; rw [Bool.eq_iff_iff]; simp [and_assoc])
theorem eqT31:isSliceT Try.prog 31 = true:=by kernel_rfl
theorem eqT27:isSliceT Try.prog 27 = true:=by kernel_rfl
theorem eqT28:isSliceT Try.prog 28 = true:=by kernel_rfl
theorem eqT59 {a0 b0:Bool} {a1 b1:Int} {a2 b2:Int} {a3 b3:Int} {a4 b4:Int} {a5 b5:Int} {a6 b6:Int} {a7 b7:Int}:aEq Try.prog 59 (.t (.agg [.sc (.bool a0),.sc (.int .i64 a1),.sc (.int .i64 a2),.sc (.int .i64 a3),.sc (.int .i64 a4),.sc (.int .i64 a5),.sc (.int .i64 a6),.sc (.int .i64 a7)])) (.t (.agg [.sc (.bool b0),.sc (.int .i64 b1),.sc (.int .i64 b2),.sc (.int .i64 b3),.sc (.int .i64 b4),.sc (.int .i64 b5),.sc (.int .i64 b6),.sc (.int .i64 b7)])) = some (decide (a0 = b0 ∧ a1 = b1 ∧ a2 = b2 ∧ a3 = b3 ∧ a4 = b4 ∧ a5 = b5 ∧ a6 = b6 ∧ a7 = b7)) :=
 (show aEq Try.prog 59 (.t (.agg [.sc (.bool a0),.sc (.int .i64 a1),.sc (.int .i64 a2),.sc (.int .i64 a3),.sc (.int .i64 a4),.sc (.int .i64 a5),.sc (.int .i64 a6),.sc (.int .i64 a7)])) (.t (.agg [.sc (.bool b0),.sc (.int .i64 b1),.sc (.int .i64 b2),.sc (.int .i64 b3),.sc (.int .i64 b4),.sc (.int .i64 b5),.sc (.int .i64 b6),.sc (.int .i64 b7)])) = some ((a0 == b0) && (((((a1 == b1) && ((a2 == b2) && true)) && ((a3 == b3) && (((a4 == b4) && ((a5 == b5) && true)) && ((a6 == b6) && true)))) && ((a7 == b7) && true)) && true)) by kernel_rfl).trans (by congr 1; rw [Bool.eq_iff_iff]; simp [and_assoc])
noncomputable def il5c:C :=
 .seq (.ops ([
 yO 0 (.mv (yB false))])) <|
 .seq (.seq (.ops ([
 yO 19 (.call (yC 7) []),
 yO 20 (.nt (.v 19))])) <|
 .cond (.v 20) (.seq (.ops ([
  yO 0 (.mv (yB false))])) <|
  .ret) (.nop)) <|
 .seq (.ops ([
 yO 22 (.call (yC 16) []),
 yO 23 (.bs false 1 yZ 4 [(0,(yI 0)),(1,(yI 0)),(2,(yI 0)),(3,(yI 0))]),
 yO 24 (.call (yC 15) [(.v 22),(.v 23)]),
 yM 21 24,
 yO 25 (.ex (.v 21) 0),
 yO 26 (.ex (.v 21) 1),
 yO 1 (.nw 6 (.agg [yZ,yS,yS,yS,yS,yS])),
 yN (.st 6 (.v 1) (.v 25)),
 yM 2 26])) <|
 .seq (.ops ([
 yO 28 (.call (yC 16) [])] ++ mkL [2,28] ([
 yO 29 (.bs false 1 yZ 5 [(0,(yI 0)),(1,(yI 0)),(2,(yI 16)),(3,(yI 0)),(4,(yI 0))]),
 yO 30 (.call (yC 15) [(.v 28),(.v 29)]),
 yM 27 30,
 yO 31 (.ex (.v 27) 0),
 yO 32 (.ex (.v 27) 1),
 yO 3 (.nw 6 (.agg [yZ,yS,yS,yS,yS,yS])),
 yN (.st 6 (.v 3) (.v 31)),
 yM 4 32]))) <|
 .seq (.ops ([
 yO 34 (.call (yC 16) []),
 yO 35 (.bs false 1 yZ 5 [(0,(yI 0)),(1,(yI 0)),(2,(yI (-1))),(3,(yI 0)),(4,(yI 0))]),
 yO 36 (.call (yC 15) [(.v 34),(.v 35)]),
 yM 33 36,
 yO 37 (.ex (.v 33) 0),
 yO 38 (.ex (.v 33) 1)] ++ mkL [2,4,37,38] ([
 yO 5 (.nw 6 (.agg [yZ,yS,yS,yS,yS,yS])),
 yN (.st 6 (.v 5) (.v 37)),
 yM 6 38]))) <|
 .seq (.ops ([
 yO 40 (.bd [yZ,yS,yS] []),
 yO 41 (.call (yC 15) [(.v 40),(.c yS)]),
 yM 39 41,
 yO 42 (.ex (.v 39) 0),
 yO 43 (.ex (.v 39) 1),
 yO 7 (.nw 6 (.agg [yZ,yS,yS,yS,yS,yS])),
 yN (.st 6 (.v 7) (.v 42)),
 yM 8 43])) <|
 .seq (.ops ([
 yO 45 (.call (yC 16) []),
 yO 46 (.bs false 1 yZ 5 [(0,(yI 1)),(1,(yI 1)),(2,(yI 0)),(3,(yI 0)),(4,(yI 0))]),
 yO 47 (.call (yC 15) [(.v 45),(.v 46)])] ++ mkL [2,4,6,8,47] ([
 yM 44 47,
 yO 48 (.ex (.v 44) 0),
 yO 49 (.ex (.v 44) 1),
 yO 9 (.nw 6 (.agg [yZ,yS,yS,yS,yS,yS])),
 yN (.st 6 (.v 9) (.v 48)),
 yM 10 49]))) <|
 .seq (.ops ([
 yD 51 6 9,
 yO 52 (.call (yC 9) [(.v 51)]),
 yM 50 52,
 yO 53 (.ex (.v 50) 0),
 yO 54 (.ex (.v 50) 1),
 yM 11 53,
 yM 12 54])) <|
 .seq (.ops ([
 yD 56 6 9] ++ mkL [2,4,6,8,9,10,11,12,56] ([
 yO 57 (.call (yC 14) [(.v 56),(yI (-1))]),
 yM 55 57,
 yO 58 (.ex (.v 55) 0),
 yO 59 (.ex (.v 55) 1),
 yO 13 (.nw 6 (.agg [yZ,yS,yS,yS,yS,yS])),
 yN (.st 6 (.v 13) (.v 58)),
 yM 14 59]))) <|
 .seq (.ops ([
 yD 60 6 9,
 yO 15 (.nw 6 (.agg [yZ,yS,yS,yS,yS,yS])),
 yN (.st 6 (.v 15) (.v 60))])) <|
 .seq (.ops ([
 yF 61 5 9,
 yL 62 1 61,
 yO 63 (.call (yC 17) [(.v 62)]),
 yF 64 5 15] ++ mkL [2,4,6,8,9,10,11,12,14,15,63,64] ([
 yN (.st 1 (.v 64) (.v 63))]))) <|
 .seq (.seq (.ops ([
 yF 65 5 15,
 yL 66 1 65,
 yO 67 (.lenS (.v 66)),
 yO 68 (.bin .neq false (.v 67) (yI 5))])) <|
 .cond (.v 68) (.seq (.ops ([
  yO 0 (.mv (yB false))])) <|
  .ret) (.nop)) <|
 .seq (.opsD [] ([
 yF 69 5 15,
 yP 70 69 (.ld false 1 (.v 69)),
 yF 71 5 9,
 yP 72 71 (.ld false 1 (.v 71)),
 yO 73 (.iaS 5 (.v 72) (yI 0)),
 yP 74 73 (.ld true 5 (.v 73)),
 yO 75 (.iaS 5 (.v 70) (yI 3)),
 yT 75 (.st 5 (.v 75) (.v 74))])) <| mkC [2,4,6,8,9,10,11,12,14,15] <|
 .seq (.ops ([
 yD 77 6 9,
 yO 78 (.call (yC 13) [(.v 77),(yI 0)]),
 yM 76 78,
 yO 79 (.ex (.v 76) 0),
 yO 80 (.ex (.v 76) 1),
 yO 16 (.nw 6 (.agg [yZ,yS,yS,yS,yS,yS])),
 yN (.st 6 (.v 16) (.v 79)),
 yM 17 80])) <|
 .seq (.seq (.ops ([
 yM 81 17,
 yO 82 (.bin .neq false (.v 81) (yI 0)),
 yM 83 82,
 yG 84 83 false (.fa 5 (.v 16)),
 yG 85 83 false (.ld false 1 (.v 84)),
 yG 86 83 false (.lenS (.v 85))] ++ mkL [2,4,6,8,10,11,12,14,15,16,83,86] ([
 yG 87 83 false (.bin .neq false (.v 86) (yI 5)),
 yO 88 (.pk (.v 83) (yB true) (.v 87)),
 yM 89 88,
 yG 90 89 false (.fa 5 (.v 16)),
 yG 91 89 false (.ld false 1 (.v 90)),
 yG 92 89 false (.iaS 5 (.v 91) (yI 0)),
 yG 93 89 false (.fa 4 (.v 92)),
 yG 94 89 false (.ld false 1 (.v 93)),
 yG 95 89 false (.lenS (.v 94)),
 yG 96 89 false (.bin .neq false (.v 95) (yI 2)),
 yO 97 (.pk (.v 89) (yB true) (.v 96))]))) <|
 .cond (.v 97) (.seq (.ops ([
  yO 0 (.mv (yB false))])) <|
  .ret) (.nop)) <|
 .seq (.ops ([
 yD 98 6 16,
 yO 18 (.nw 6 (.agg [yZ,yS,yS,yS,yS,yS]))] ++ mkL [2,4,6,8,10,11,12,14,15,16,18,98] ([
 yN (.st 6 (.v 18) (.v 98))]))) <|
 .seq (.ops ([
 yF 99 5 16,
 yL 100 1 99,
 yO 101 (.call (yC 17) [(.v 100)]),
 yF 102 5 18,
 yN (.st 1 (.v 102) (.v 101))])) <|
 .seq (.ops ([
 yF 103 5 18,
 yL 104 1 103,
 yO 105 (.bd [yZ,yZ,yZ,yZ,yZ,yZ] [(5,1,(yI 1))]),
 yO 106 (.bd [yZ,yZ,yZ,yZ,yZ,yZ,yZ] [(0,6,(.v 105))]),
 yO 107 (.bd [(.sc (.bool false)),yZ,yZ,yZ,yZ,yZ,yZ,yZ] [(0,1,(yB true)),(1,7,(.v 106))]),
 yO 108 (.bd [(.sc (.bool false)),yZ,yZ,yZ,yZ,yZ,yZ,yZ] []),
 yO 109 (.bs false 8 (.agg [(.sc (.bool false)),yZ,yZ,yZ,yZ,yZ,yZ,yZ]) 2 [(0,(.v 107)),(1,(.v 108))]),
 yO 110 (.iaS 5 (.v 104) (yI 0))] ++ mkL [2,4,6,8,10,11,12,14,15,16,18,109,110] ([
 yF 111 4 110,
 yN (.st 1 (.v 111) (.v 109))]))) <|
 .seq (.ops ([
 yM 112 2,
 yO 113 (.bin .eql false (.v 112) (yI 2)),
 yM 114 113,
 yG 115 114 true (.mv (.v 4)),
 yG 116 114 true (.bin .eql false (.v 115) (yI 2)),
 yO 117 (.pk (.v 114) (.v 116) (yB false)),
 yM 118 117,
 yG 119 118 true (.mv (.v 6)),
 yG 120 118 true (.bin .eql false (.v 119) (yI 2)),
 yO 121 (.pk (.v 118) (.v 120) (yB false)),
 yM 122 121,
 yG 123 122 true (.mv (.v 8))] ++ mkL [10,11,12,14,15,16,18,122,123] ([
 yG 124 122 true (.bin .eql false (.v 123) (yI 260)),
 yO 125 (.pk (.v 122) (.v 124) (yB false)),
 yM 126 125,
 yG 127 126 true (.mv (.v 10)),
 yG 128 126 true (.bin .eql false (.v 127) (yI 0)),
 yO 129 (.pk (.v 126) (.v 128) (yB false)),
 yM 130 129,
 yG 131 130 true (.mv (.v 12)),
 yG 132 130 true (.bin .eql false (.v 131) (yI 0)),
 yO 133 (.pk (.v 130) (.v 132) (yB false)),
 yM 134 133,
 yG 135 134 true (.mv (.v 11)),
 yG 136 134 true (.bs false 1 yZ 10 [(0,(yI 1)),(1,(yI 2)),(2,(yI 1)),(3,(yI 2)),(4,(yI 3)),(5,(yI 2)),(6,(yI 0)),(7,(yI 2)),(8,(yI 0)),(9,(yI 2))]),
 yG 137 134 true (.call (yC 12) [(.v 135),(.v 136)])] ++ mkL [14,15,16,18,134,137] ([
 yO 138 (.pk (.v 134) (.v 137) (yB false)),
 yM 139 138,
 yG 140 139 true (.mv (.v 14)),
 yG 141 139 true (.bin .eql false (.v 140) (yI 2)),
 yO 142 (.pk (.v 139) (.v 141) (yB false)),
 yM 143 142,
 yG 144 143 true (.ld true 6 (.v 15)),
 yG 145 143 true (.call (yC 18) [(.v 144)]),
 yG 146 143 true (.bin .eql false (.v 145) (yI 300)),
 yO 147 (.pk (.v 143) (.v 146) (yB false)),
 yM 148 147,
 yG 149 148 true (.ld true 6 (.v 16)),
 yG 150 148 true (.call (yC 18) [(.v 149)]),
 yG 151 148 true (.bin .eql false (.v 150) (yI 0))] ++ mkL [18,148,151] ([
 yO 152 (.pk (.v 148) (.v 151) (yB false)),
 yM 153 152,
 yG 154 153 true (.ld true 6 (.v 18)),
 yG 155 153 true (.call (yC 18) [(.v 154)]),
 yG 156 153 true (.bin .eql false (.v 155) (yI 300)),
 yO 157 (.pk (.v 153) (.v 156) (yB false)),
 yM 158 157,
 yG 159 158 true (.bd [yZ,yS,yS,yS,yS,yS] []),
 yG 160 158 true (.call (yC 18) [(.v 159)]),
 yG 161 158 true (.bin .eql false (.v 160) (yI 300)),
 yO 162 (.pk (.v 158) (.v 161) (yB false)),
 yM 0 162]))))) <|
 .ret
theorem il5_eq:cFn Try.prog pol 5 = some ⟨163,il5c,[(0,none)]⟩:=by kernel_rfl
noncomputable def il7c:C :=
 .seq (.ops ([
 yO 0 (.mv (yB false))])) <|
 .seq (.ops ([
 yO 22 (.call (yC 16) []),
 yO 23 (.bs false 1 yZ 5 [(0,(yI 0)),(1,(yI 0)),(2,(yI 0)),(3,(yI 0)),(4,(yI 0))]),
 yO 24 (.call (yC 15) [(.v 22),(.v 23)]),
 yM 21 24,
 yO 25 (.ex (.v 21) 0),
 yO 26 (.ex (.v 21) 1),
 yO 1 (.nw 6 (.agg [yZ,yS,yS,yS,yS,yS])),
 yN (.st 6 (.v 1) (.v 25)),
 yM 2 26])) <|
 .seq (.ops ([
 yD 28 6 1,
 yO 29 (.call (yC 9) [(.v 28)]),
 yM 27 29,
 yO 30 (.ex (.v 27) 0)] ++ mkL [1,2,27,30] ([
 yO 31 (.ex (.v 27) 1),
 yM 3 30,
 yM 4 31]))) <|
 .seq (.ops ([
 yD 33 6 1,
 yO 34 (.call (yC 11) [(.v 33)]),
 yM 32 34,
 yO 35 (.ex (.v 32) 0),
 yO 36 (.ex (.v 32) 1),
 yM 5 35,
 yM 6 36])) <|
 .seq (.ops ([
 yD 38 6 1,
 yO 39 (.call (yC 21) [(.v 38)]),
 yM 37 39,
 yO 40 (.ex (.v 37) 0)] ++ mkL [1,2,3,4,5,6,37,40] ([
 yO 41 (.ex (.v 37) 1),
 yO 7 (.nw 6 (.agg [yZ,yS,yS,yS,yS,yS])),
 yN (.st 6 (.v 7) (.v 40)),
 yM 8 41]))) <|
 .seq (.ops ([
 yD 43 6 7,
 yO 44 (.call (yC 21) [(.v 43)]),
 yM 42 44,
 yO 45 (.ex (.v 42) 0),
 yO 46 (.ex (.v 42) 1),
 yO 9 (.nw 6 (.agg [yZ,yS,yS,yS,yS,yS])),
 yN (.st 6 (.v 9) (.v 45)),
 yM 10 46])) <|
 .seq (.ops ([
 yD 48 6 9,
 yO 49 (.call (yC 11) [(.v 48)])] ++ mkL [1,2,3,4,5,6,8,9,10,49] ([
 yM 47 49,
 yO 50 (.ex (.v 47) 0),
 yO 51 (.ex (.v 47) 1),
 yM 11 50,
 yM 12 51]))) <|
 .seq (.ops ([
 yD 53 6 9,
 yO 54 (.call (yC 13) [(.v 53),(yI 1)]),
 yM 52 54,
 yO 55 (.ex (.v 52) 0),
 yO 56 (.ex (.v 52) 1),
 yO 13 (.nw 6 (.agg [yZ,yS,yS,yS,yS,yS])),
 yN (.st 6 (.v 13) (.v 55)),
 yM 14 56])) <|
 .seq (.ops ([
 yD 58 6 13] ++ mkL [1,2,3,4,5,6,8,10,11,12,14,58] ([
 yO 59 (.call (yC 9) [(.v 58)]),
 yM 57 59,
 yO 60 (.ex (.v 57) 0),
 yO 61 (.ex (.v 57) 1),
 yM 15 60,
 yM 16 61]))) <|
 .seq (.ops ([
 yD 63 6 1,
 yO 64 (.call (yC 13) [(.v 63),(yI 5)]),
 yM 62 64,
 yO 65 (.ex (.v 62) 0),
 yO 66 (.ex (.v 62) 1),
 yO 17 (.nw 6 (.agg [yZ,yS,yS,yS,yS,yS])),
 yN (.st 6 (.v 17) (.v 65)),
 yM 18 66])) <| mkC [2,3,4,5,6,8,10,11,12,14,15,16,18] <|
 .seq (.ops ([
 yM 67 2,
 yO 68 (.bin .eql false (.v 67) (yI 0)),
 yM 69 68,
 yG 70 69 true (.mv (.v 4)),
 yG 71 69 true (.bin .eql false (.v 70) (yI 0)),
 yO 72 (.pk (.v 69) (.v 71) (yB false)),
 yM 73 72,
 yG 74 73 true (.mv (.v 6)),
 yG 75 73 true (.bin .eql false (.v 74) (yI 0)),
 yO 76 (.pk (.v 73) (.v 75) (yB false)),
 yM 77 76,
 yG 78 77 true (.mv (.v 8)),
 yG 79 77 true (.bin .eql false (.v 78) (yI 0)),
 yO 80 (.pk (.v 77) (.v 79) (yB false))] ++ mkL [3,5,10,11,12,14,15,16,18,80] ([
 yM 81 80,
 yG 82 81 true (.mv (.v 10)),
 yG 83 81 true (.bin .eql false (.v 82) (yI 0)),
 yO 84 (.pk (.v 81) (.v 83) (yB false)),
 yM 85 84,
 yG 86 85 true (.mv (.v 12)),
 yG 87 85 true (.bin .eql false (.v 86) (yI 0)),
 yO 88 (.pk (.v 85) (.v 87) (yB false)),
 yM 89 88,
 yG 90 89 true (.mv (.v 14)),
 yG 91 89 true (.bin .eql false (.v 90) (yI 0)),
 yO 92 (.pk (.v 89) (.v 91) (yB false)),
 yM 93 92,
 yG 94 93 true (.mv (.v 16))] ++ mkL [3,5,11,15,18,93,94] ([
 yG 95 93 true (.bin .eql false (.v 94) (yI 0)),
 yO 96 (.pk (.v 93) (.v 95) (yB false)),
 yM 19 96])))) <|
 .seq (.ops ([
 yO 97 (.bs false 1 yZ 10 [(0,(yI 2)),(1,(yI 1)),(2,(yI 2)),(3,(yI 1)),(4,(yI 2)),(5,(yI 3)),(6,(yI 0)),(7,(yI 2)),(8,(yI 0)),(9,(yI 2))]),
 yM 20 97])) <|
 .seq (.ops ([
 yM 98 19,
 yM 99 98,
 yG 100 99 true (.mv (.v 3)),
 yG 101 99 true (.mv (.v 20)),
 yG 102 99 true (.call (yC 12) [(.v 100),(.v 101)]),
 yO 103 (.pk (.v 99) (.v 102) (yB false)),
 yM 104 103,
 yG 105 104 true (.mv (.v 5)),
 yG 106 104 true (.bs false 1 yZ 10 [(0,(yI 2)),(1,(yI 2)),(2,(yI 2)),(3,(yI 2)),(4,(yI 2)),(5,(yI 2)),(6,(yI 0)),(7,(yI 2)),(8,(yI 0)),(9,(yI 2))])] ++ mkL [11,15,18,20,104,105,106] ([
 yG 107 104 true (.call (yC 12) [(.v 105),(.v 106)]),
 yO 108 (.pk (.v 104) (.v 107) (yB false)),
 yM 109 108,
 yG 110 109 true (.mv (.v 11)),
 yG 111 109 true (.mv (.v 20)),
 yG 112 109 true (.call (yC 12) [(.v 110),(.v 111)]),
 yO 113 (.pk (.v 109) (.v 112) (yB false)),
 yM 114 113,
 yG 115 114 true (.mv (.v 15)),
 yG 116 114 true (.bs false 1 yZ 10 [(0,(yI 2)),(1,(yI 1)),(2,(yI 0)),(3,(yI 0)),(4,(yI 2)),(5,(yI 1)),(6,(yI 0)),(7,(yI 2)),(8,(yI 0)),(9,(yI 2))]),
 yG 117 114 true (.call (yC 12) [(.v 115),(.v 116)]),
 yO 118 (.pk (.v 114) (.v 117) (yB false)),
 yM 119 118,
 yG 120 119 true (.mv (.v 18))] ++ mkL [119,120] ([
 yG 121 119 true (.bin .eql false (.v 120) (yI 2)),
 yO 122 (.pk (.v 119) (.v 121) (yB false)),
 yM 0 122])))) <|
 .ret
theorem il7_eq:cFn Try.prog pol 7 = some ⟨123,il7c,[(0,none)]⟩:=by kernel_rfl
noncomputable def il9c:C :=
 .seq (.ops ([
 yO 1 (.bx false (.v 0)),
 yO 2 (.mv (.c yS)),
 yO 3 (.mv (yI 0))])) <|
 .seq (.seq (.ops ([
 yD 6 6 1,
 yO 7 (.call (yC 18) [(.v 6)]),
 yM 4 7])) <|
 .seq (.ops ([
 yM 8 4,
 yO 9 (.bin .neq false (.v 8) (yI 0))])) <|
 .cond (.v 9) (.seq (.ops ([
  yM 10 4,
  yO 2 (.mv (.c yS)),
  yM 3 10])) <|
  .ret) (.nop)) <|
 .seq (.ops ([
 yD 11 6 1,
 yO 12 (.bd [yZ,yS,yS,yS,yS,yS] [(0,6,(.v 11))]),
 yO 5 (.nw 6 (.agg [yZ,yS,yS,yS,yS,yS]))] ++ mkL [5,12] ([
 yN (.st 6 (.v 5) (.v 12))]))) <|
 .seq (.opsD [(0,2)] ([
 yP 13 5 (.ld true 6 (.v 5)),
 yP 14 5 (.ld true 6 (.v 5)),
 yQ 15 (yC 25) [(.v 14)],
 yQ 16 (yC 24) [(.v 13),(.v 15)],
 yM 2 16,
 yO 3 (.mv (yI 0))])) <|
 .ret
theorem il9_eq:cFn Try.prog pol 9 = some ⟨17,il9c,[(2,none),(3,none)]⟩:=by kernel_rfl
noncomputable def il11r0a:C :=
 .seq (.ops ([
 yM 6 22])) <|
 .ops ([
 yO 7 (.nw 5 (.agg [yZ,yZ,yS,yS,yS])),
 yN (.st 5 (.v 7) (.v 23))])
noncomputable def il11r0b:C :=
 .block 1 (.seq (.ops ([
  yD 25 5 7,
  yO 26 (.call (yC 27) [(.v 25)]),
  yM 24 26,
  yO 27 (.ex (.v 24) 0),
  yO 28 (.ex (.v 24) 1),
  yM 8 27,
  yM 9 28])) <|
  .seq (.seq (.ops ([
  yM 29 9,
  yO 30 (.bin .neq false (.v 29) (yI 0))])) <|
  .cond (.v 30) (.seq (.ops ([
   yM 31 9,
   yN (.st 1 (.v 2) (.c yS)),
   yN (.st 1 (.v 3) (.v 31))])) <|
   .ret) (.nop)) <|
  .ops ([
  yL 32 1 5,
  yM 33 6] ++ mkL [8,32,33] ([
  yM 34 8,
  yO 35 (.iaS 1 (.v 32) (.v 33)),
  yN (.st 1 (.v 35) (.v 34))])))
theorem il11r0a_eq:cCode Try.prog pol 11 40 0 (rfOf Try.prog 11 0).1 = il11r0a:=by kernel_rfl
theorem il11r0b_eq:cCode Try.prog pol 11 40 0 (rfOf Try.prog 11 0).2 = il11r0b:=by kernel_rfl
noncomputable def il11c:C :=
 .seq (.ops ([
 yO 1 (.bx false (.v 0)),
 yO 2 (.nw 1 yS),
 yO 3 (.nw 1 yZ)])) <|
 .seq (.seq (.ops ([
 yD 10 6 1,
 yO 11 (.call (yC 18) [(.v 10)]),
 yM 4 11])) <|
 .seq (.ops ([
 yM 12 4,
 yO 13 (.bin .neq false (.v 12) (yI 0))])) <|
 .cond (.v 13) (.seq (.ops ([
  yM 14 4,
  yN (.st 1 (.v 2) (.c yS)),
  yN (.st 1 (.v 3) (.v 14))])) <|
  .ret) (.nop)) <|
 .seq (.ops ([
 yF 15 5 1,
 yL 16 1 15,
 yO 17 (.lenS (.v 16))] ++ mkL [1,2,3,17,17] ([
 yO 18 (.raw (opOf Try.prog 11 4 3)),
 yO 5 (.nw 1 yS),
 yN (.st 1 (.v 5) (.v 18))]))) <|
 .seq (.seq (.ops ([
 yD 19 6 1,
 yO 20 (.bd [yZ,yS,yS,yS,yS,yS] [(0,6,(.v 19))]),
 yO 21 (.call (yC 26) [(.v 20)])])) <|
 .block 0 (.rangeF 40 (some [2,3,5]) (.v 21) [22,23] (rfOf Try.prog 11 0).1 (rfOf Try.prog 11 0).2)) <|
 .seq (.ops ([
 yD 36 6 1,
 yO 37 (.bd [yZ,yS,yS,yS,yS,yS] [(0,6,(.v 36))]),
 ⟨some 38,none,some [(.v 5),(.v 1)],.objs [],.fn 28 [] [(.v 5),(.v 1)]⟩,
 yO 39 (.call (yC 24) [(.v 37),(.v 38)]),
 yN (.st 1 (.v 2) (.v 39)),
 yN (.st 1 (.v 3) (yI 0))])) <|
 .ret
theorem il11_eq:cFn Try.prog pol 11 = some ⟨40,il11c,[(2,some (false,1)),(3,some (false,1))]⟩:=by kernel_rfl
theorem raw11_4_3 {e:FEnv} {h:Heap}:iStep Try.prog pol 11 e h (.raw (opOf Try.prog 11 4 3)) = mkSl 1 24 (.sc (.slice none 0 0)) h (asNat (Src.get e (.v 17))) (asNat (Src.get e (.v 17))):=raw_makeSlice (t:=76) (l:=(.tmp 17)) (c:=(.tmp 17)) (elem:=31) (by kernel_rfl) (by kernel_rfl) (by kernel_rfl) (by kernel_rfl) (by kernel_rfl) (by kernel_rfl) (by kernel_rfl)
noncomputable def il12l0b:C :=
 .seq (.ops ([
 yO 14 (.bin .lss false (.v 13) (.v 12))])) <|
 .seq (.cond (.v 14) (.nop) (.exit 0)) <|
 .seq (.block 1 (.seq (.ops ([
  yM 15 13,
  yM 5 15])) <|
  .seq (.opsD [] ([
  yM 16 0,
  yM 17 5,
  yO 18 (.iaS 1 (.v 16) (.v 17)),
  yP 19 18 (.ld false 1 (.v 18)),
  yM 20 1,
  yM 21 5,
  yO 22 (.iaS 1 (.v 20) (.v 21)),
  yP 23 22 (.ld false 1 (.v 22)),
  yO 24 (.bin .neq false (.v 19) (.v 23))])) <|
  .cond (.v 24) (.seq (.ops ([
   yO 4 (.mv (yB false))])) <|
   .ret) (.nop))) <|
 .ops ([
 yO 25 (.bin .add false (.v 13) (yI 1))] ++ mkL [0,1,12,25] ([
 yM 13 25]))
noncomputable def il12l0:C:=il12l0b
theorem il12l0_go {P pol K I n f R e h}:wc P pol K I n f il12l0 R e h = wc P pol K I n f il12l0b R e h:=(fun x=>x) rfl
noncomputable def il12c:C :=
 .seq (.ops ([
 yO 4 (.mv (yB false))])) <|
 .seq (.seq (.ops ([
 yM 6 0,
 yO 7 (.lenS (.v 6)),
 yM 8 1,
 yO 9 (.lenS (.v 8)),
 yO 10 (.bin .neq false (.v 7) (.v 9))])) <|
 .cond (.v 10) (.seq (.ops ([
  yO 4 (.mv (yB false))])) <|
  .ret) (.nop)) <|
 .seq (.seq (.ops ([
 yM 11 0,
 yO 12 (.lenS (.v 11)),
 yO 13 (.mv (yI 0))])) <|
 .block 0 (.loop (some [0,1,12,13]) il12l0)) <|
 .seq (.ops ([
 yO 4 (.mv (yB true))])) <|
 .ret
theorem il12_eq:cFn Try.prog pol 12 = some ⟨26,il12c,[(4,none)]⟩:=by kernel_rfl
noncomputable def il13l0b:C :=
 .seq (.ops ([
 yO 45 (.bin .lss false (.v 44) (.v 43))])) <|
 .seq (.cond (.v 45) (.nop) (.exit 2)) <|
 .seq (.block 3 (.seq (.ops ([
  yM 46 44,
  yO 47 (.iaS 1 (.v 42) (.v 44)),
  yL 48 1 47,
  yM 10 46,
  yM 11 48])) <|
  .seq (.seq (.ops ([
  yM 49 11,
  yO 50 (.bin .quo false (.v 49) (yI 2)),
  yL 51 1 3,
  yO 52 (.bin .neq false (.v 50) (.v 51))])) <|
  .cond (.v 52) (.exit 3) (.nop)) <|
  .seq (.ops ([
  yF 54 0 7,
  yF 55 5 54,
  yL 56 1 55,
  yM 57 8] ++ mkL [3,4,5,7,8,10,42,43,44,56,57] ([
  yO 58 (.iaS 5 (.v 56) (.v 57)),
  yD 59 5 58,
  yM 60 10,
  yO 61 (.call (yC 31) [(.v 59),(.v 60)]),
  yM 53 61,
  yO 62 (.ex (.v 53) 0),
  yO 63 (.ex (.v 53) 1),
  yO 12 (.nw 5 (.agg [yZ,yZ,yS,yS,yS])),
  yN (.st 5 (.v 12) (.v 62)),
  yM 13 63]))) <|
  .seq (.seq (.ops ([
  yM 64 13,
  yO 65 (.bin .neq false (.v 64) (yI 0))])) <|
  .cond (.v 65) (.seq (.ops ([
   yO 66 (.bd [yZ,yS,yS,yS,yS,yS] []),
   yM 67 13] ++ mkL [4,5,66,67] ([
   yN (.st 6 (.v 4) (.v 66)),
   yN (.st 1 (.v 5) (.v 67))]))) <|
   .ret) (.nop)) <|
  .ops ([
  yF 68 0 7,
  yF 69 5 68] ++ mkL [3,4,5,7,8,12,42,43,44,69] ([
  yL 70 1 69,
  yM 71 8,
  yD 72 5 12,
  yO 73 (.iaS 5 (.v 70) (.v 71)),
  yN (.st 5 (.v 73) (.v 72))])))) <|
 .ops ([
 yO 74 (.bin .add false (.v 44) (yI 1)),
 yM 44 74])
noncomputable def il13l0:C:=il13l0b
theorem il13l0_go {P pol K I n f R e h}:wc P pol K I n f il13l0 R e h = wc P pol K I n f il13l0b R e h:=(fun x=>x) rfl
noncomputable def il13r0a:C :=
 .seq (.ops ([
 yM 8 39])) <|
 .ops ([
 yO 9 (.nw 5 (.agg [yZ,yZ,yS,yS,yS])),
 yN (.st 5 (.v 9) (.v 40))])
noncomputable def il13r0b:C :=
 .block 1 (.seq (.ops ([
  yF 41 2 9,
  yL 42 1 41,
  yO 43 (.lenS (.v 42)),
  yO 44 (.mv (yI 0))])) <|
  .block 2 (.loop (some [3,4,5,7,8,42,43,44]) il13l0))
theorem il13r0a_eq:cCode Try.prog pol 13 77 0 (rfOf Try.prog 13 0).1 = il13r0a:=by kernel_rfl
theorem il13r0b_eq:cCode Try.prog pol 13 77 0 (rfOf Try.prog 13 0).2 = il13r0b:=by kernel_rfl
noncomputable def il13c:C :=
 .seq (.ops ([
 yO 2 (.bx false (.v 0)),
 yO 3 (.bx false (.v 1)),
 yO 4 (.nw 6 (.agg [yZ,yS,yS,yS,yS,yS])),
 yO 5 (.nw 1 yZ)])) <|
 .seq (.seq (.ops ([
 yD 14 6 2,
 yO 15 (.call (yC 18) [(.v 14)]),
 yM 6 15])) <|
 .seq (.ops ([
 yM 16 6,
 yO 17 (.bin .neq false (.v 16) (yI 0))])) <|
 .cond (.v 17) (.seq (.ops ([
  yO 18 (.bd [yZ,yS,yS,yS,yS,yS] []),
  yM 19 6,
  yN (.st 6 (.v 4) (.v 18)),
  yN (.st 1 (.v 5) (.v 19))])) <|
  .ret) (.nop)) <|
 .seq (.seq (.ops ([
 yL 20 1 3] ++ mkL [2,3,4,5,20] ([
 yO 21 (.bin .lss false (.v 20) (yI 0)),
 yM 22 21,
 yG 23 22 false (.ld false 1 (.v 3)),
 yG 24 22 false (.fa 4 (.v 2)),
 yG 25 22 false (.ld false 1 (.v 24)),
 yG 26 22 false (.lenS (.v 25)),
 yG 27 22 false (.bin .geq false (.v 23) (.v 26)),
 yO 28 (.pk (.v 22) (yB true) (.v 27))]))) <|
 .cond (.v 28) (.seq (.ops ([
  yO 29 (.bd [yZ,yS,yS,yS,yS,yS] []),
  yN (.st 6 (.v 4) (.v 29)),
  yN (.st 1 (.v 5) (yI 2))])) <|
  .ret) (.nop)) <|
 .seq (.ops ([
 yD 30 6 2,
 yO 31 (.call (yC 30) [(.v 30)]),
 yO 7 (.nw 6 (.agg [yZ,yS,yS,yS,yS,yS]))] ++ mkL [3,4,5,7,31] ([
 yN (.st 6 (.v 7) (.v 31))]))) <|
 .seq (.ops ([
 yF 32 0 7,
 yF 33 4 32,
 yL 34 1 33,
 yL 35 1 3,
 yO 36 (.iaS 1 (.v 34) (.v 35)),
 yN (.st 1 (.v 36) (yB true))])) <|
 .seq (.seq (.ops ([
 yD 37 6 7,
 yO 38 (.call (yC 26) [(.v 37)])])) <|
 .block 0 (.rangeF 77 (some [3,4,5,7]) (.v 38) [39,40] (rfOf Try.prog 13 0).1 (rfOf Try.prog 13 0).2)) <|
 .seq (.ops ([
 yF 75 0 7,
 yD 76 6 75,
 yN (.st 6 (.v 4) (.v 76)),
 yN (.st 1 (.v 5) (yI 0))])) <|
 .ret
theorem il13_eq:cFn Try.prog pol 13 = some ⟨77,il13c,[(4,some (true,6)),(5,some (false,1))]⟩:=by kernel_rfl
noncomputable def il14c:C :=
 .seq (.ops ([
 yO 2 (.bx false (.v 0)),
 yO 4 (.nw 6 (.agg [yZ,yS,yS,yS,yS,yS])),
 yO 5 (.mv (yI 0))])) <|
 .seq (.seq (.ops ([
 yD 8 6 2,
 yO 9 (.call (yC 18) [(.v 8)]),
 yM 6 9])) <|
 .seq (.ops ([
 yM 10 6,
 yO 11 (.bin .neq false (.v 10) (yI 0))])) <|
 .cond (.v 11) (.seq (.ops ([
  yO 12 (.bd [yZ,yS,yS,yS,yS,yS] []),
  yM 13 6,
  yN (.st 6 (.v 4) (.v 12)),
  yM 5 13])) <|
  .ret) (.nop)) <|
 .seq (.seq (.ops ([
 yM 14 1,
 yO 15 (.bin .lss false (.v 14) (yI 0))] ++ mkL [1,2,4,15] ([
 yM 16 15,
 yG 17 16 false (.mv (.v 1)),
 yG 18 16 false (.fa 4 (.v 2)),
 yG 19 16 false (.ld false 1 (.v 18)),
 yG 20 16 false (.lenS (.v 19)),
 yG 21 16 false (.bin .geq false (.v 17) (.v 20)),
 yO 22 (.pk (.v 16) (yB true) (.v 21))]))) <|
 .cond (.v 22) (.seq (.ops ([
  yO 23 (.bd [yZ,yS,yS,yS,yS,yS] []),
  yN (.st 6 (.v 4) (.v 23)),
  yO 5 (.mv (yI 2))])) <|
  .ret) (.nop)) <|
 .seq (.ops ([
 yD 24 6 2,
 yO 25 (.call (yC 30) [(.v 24)]),
 yO 7 (.nw 6 (.agg [yZ,yS,yS,yS,yS,yS])),
 yN (.st 6 (.v 7) (.v 25))])) <| mkC [1,4,7] <|
 .seq (.ops ([
 yF 26 0 7,
 yF 27 4 26,
 yL 28 1 27,
 yM 29 1,
 yO 30 (.iaS 1 (.v 28) (.v 29)),
 yN (.st 1 (.v 30) (yB false))])) <|
 .seq (.ops ([
 yF 31 0 7,
 yD 32 6 31,
 yN (.st 6 (.v 4) (.v 32)),
 yO 5 (.mv (yI 0))])) <|
 .ret
theorem il14_eq:cFn Try.prog pol 14 = some ⟨33,il14c,[(4,some (true,6)),(5,none)]⟩:=by kernel_rfl
noncomputable def il15r0a:C :=
 .ops ([
 yM 8 37])
noncomputable def il15r0b:C :=
 .block 1 (.seq (.ops ([
  yD 40 6 7,
  yM 41 8,
  yO 42 (.call (yC 34) [(.v 40),(.v 41)]),
  yM 39 42,
  yO 43 (.ex (.v 39) 0),
  yO 44 (.ex (.v 39) 1),
  yM 9 43,
  yM 10 44])) <|
  .seq (.ops ([
  yD 46 6 7,
  yM 47 8,
  yO 48 (.call (yC 36) [(.v 46),(.v 47)]),
  yM 49 9,
  yM 50 10,
  ⟨some 51,none,some [(yC 35),(.v 48),(.v 49),(.v 50)],.objs [],.call (yC 35) [(.v 48),(.v 49),(.v 50)]⟩] ++ mkL [4,5,7,8,51] ([
  yM 45 51,
  yO 52 (.ex (.v 45) 0),
  yO 53 (.ex (.v 45) 1),
  yO 11 (.nw 5 (.agg [yZ,yZ,yS,yS,yS])),
  yN (.st 5 (.v 11) (.v 52)),
  yM 12 53]))) <|
  .seq (.seq (.ops ([
  yM 54 12,
  yO 55 (.bin .neq false (.v 54) (yI 0))])) <|
  .cond (.v 55) (.seq (.ops ([
   yO 56 (.bd [yZ,yS,yS,yS,yS,yS] []),
   yM 57 12,
   yN (.st 6 (.v 4) (.v 56)),
   yN (.st 1 (.v 5) (.v 57))])) <|
   .ret) (.nop)) <|
  .ops ([
  yF 58 0 7,
  yF 59 5 58] ++ mkL [8,11,59] ([
  yL 60 1 59,
  yM 61 8,
  yD 62 5 11,
  yO 63 (.iaS 5 (.v 60) (.v 61)),
  yN (.st 5 (.v 63) (.v 62))])))
theorem il15r0a_eq:cCode Try.prog pol 15 66 0 (rfOf Try.prog 15 0).1 = il15r0a:=by kernel_rfl
theorem il15r0b_eq:cCode Try.prog pol 15 66 0 (rfOf Try.prog 15 0).2 = il15r0b:=by kernel_rfl
noncomputable def il15c:C :=
 .seq (.ops ([
 yO 2 (.bx false (.v 0)),
 yO 4 (.nw 6 (.agg [yZ,yS,yS,yS,yS,yS])),
 yO 5 (.nw 1 yZ)])) <|
 .seq (.seq (.ops ([
 yD 13 3 2,
 yO 14 (.call (yC 32) [(.v 13)]),
 yM 6 14])) <|
 .seq (.ops ([
 yM 15 6,
 yO 16 (.bin .neq false (.v 15) (yI 0))])) <|
 .cond (.v 16) (.seq (.ops ([
  yO 17 (.bd [yZ,yS,yS,yS,yS,yS] []),
  yM 18 6,
  yN (.st 6 (.v 4) (.v 17)),
  yN (.st 1 (.v 5) (.v 18))])) <|
  .ret) (.nop)) <|
 .seq (.seq (.ops ([
 yD 19 3 2,
 yM 20 1] ++ mkL [1,2,4,5,19,20] ([
 yO 21 (.call (yC 33) [(.v 19),(.v 20)]),
 yO 22 (.nt (.v 21))]))) <|
 .cond (.v 22) (.seq (.ops ([
  yO 23 (.bd [yZ,yS,yS,yS,yS,yS] []),
  yN (.st 6 (.v 4) (.v 23)),
  yN (.st 1 (.v 5) (yI 2))])) <|
  .ret) (.nop)) <|
 .seq (.opsD [(0,5),(5,7),(0,8),(3,8),(4,8),(0,11),(3,11),(4,11),(7,11),(10,11)] ([
 yP 24 2 (.ld true 3 (.v 2)),
 yM 25 1,
 yF 26 2 2,
 yP 27 26 (.ld false 1 (.v 26)),
 yP 28 27 (.lenS (.v 27)),
 yO 29 (.raw (opOf Try.prog 15 6 5)),
 yF 30 0 2,
 yP 31 30 (.ld false 1 (.v 30)),
 yO 32 (.raw (opOf Try.prog 15 6 8))] ++ mkL [4,5,24,25,29,32] ([
 yO 33 (.bd [yZ,yS,yS,yS,yS,yS] [(0,3,(.v 24)),(3,1,(.v 25)),(4,1,(.v 29)),(5,1,(.v 32))]),
 yQ 34 (yC 30) [(.v 33)],
 yO 7 (.nw 6 (.agg [yZ,yS,yS,yS,yS,yS])),
 yT 7 (.st 6 (.v 7) (.v 34))]))) <|
 .seq (.seq (.ops ([
 yD 35 6 7,
 yO 36 (.call (yC 26) [(.v 35)])])) <|
 .block 0 (.rangeF 66 (some [4,5,7]) (.v 36) [37,38] (rfOf Try.prog 15 0).1 (rfOf Try.prog 15 0).2)) <|
 .seq (.ops ([
 yF 64 0 7,
 yD 65 6 64,
 yN (.st 6 (.v 4) (.v 65)),
 yN (.st 1 (.v 5) (yI 0))])) <|
 .ret
theorem il15_eq:cFn Try.prog pol 15 = some ⟨66,il15c,[(4,some (true,6)),(5,some (false,1))]⟩:=by kernel_rfl
theorem raw15_6_5 {e:FEnv} {h:Heap}:iStep Try.prog pol 15 e h (.raw (opOf Try.prog 15 6 5)) = mkSlT 1 1 (.sc (.bool false)) h (asNat (Src.get e (.v 28))) (asNat (Src.get e (.v 28))):=raw_makeSliceT (t:=27) (l:=(.tmp 28)) (c:=(.tmp 28)) (elem:=4) (by kernel_rfl) (by kernel_rfl) (by kernel_rfl) (by kernel_rfl) (by kernel_rfl) (by kernel_rfl) (by kernel_rfl)
theorem raw15_6_8 {e:FEnv} {h:Heap}:iStep Try.prog pol 15 e h (.raw (opOf Try.prog 15 6 8)) = mkSlT 5 88 (.agg [(.sc (.int .i64 0)),(.sc (.int .i64 0)),(.sc (.slice none 0 0)),(.sc (.slice none 0 0)),(.sc (.slice none 0 0))]) h (asNat (Src.get e (.v 31))) (asNat (Src.get e (.v 31))):=raw_makeSliceT (t:=32) (l:=(.tmp 31)) (c:=(.tmp 31)) (elem:=53) (by kernel_rfl) (by kernel_rfl) (by kernel_rfl) (by kernel_rfl) (by kernel_rfl) (by kernel_rfl) (by kernel_rfl)
noncomputable def il17c:C :=
 .seq (.ops ([
 yO 2 (.mv (.c yS))])) <|
 .seq (.seq (.ops ([
 yM 3 0,
 yO 4 (.raw (opOf Try.prog 17 1 1))])) <|
 .cond (.v 4) (.seq (.ops ([
  yO 2 (.mv (.c yS))])) <|
  .ret) (.nop)) <|
 .seq (.ops ([
 yO 5 (.bs false 5 (.agg [yZ,yZ,yS,yS,yS]) 0 []),
 yM 6 0,
 yO 7 (.app 5 88 (.v 5) (.v 6)),
 yM 2 7])) <|
 .ret
theorem il17_eq:cFn Try.prog pol 17 = some ⟨8,il17c,[(2,none)]⟩:=by kernel_rfl
theorem raw17_1_1 {e:FEnv} {h:Heap}:iStep Try.prog pol 17 e h (.raw (opOf Try.prog 17 1 1)) = vOf h (binE Try.prog false 32 (.tmp 3) (.const (.slice none 0 0)) (Src.get e (.v 3)) (Src.get e (.c (.sc (.slice none 0 0))))):=raw_eql (x:=(.tmp 3)) (y:=(.const (.slice none 0 0))) (s:=32) (by kernel_rfl)
noncomputable def il18l0b:C :=
 .seq (.ops ([
 yO 37 (.bin .lss false (.v 36) (.v 35))])) <|
 .seq (.cond (.v 37) (.nop) (.exit 0)) <|
 .seq (.block 1 (.seq (.ops ([
  yM 38 36,
  yM 3 38])) <|
  .seq (.ops ([
  yD 39 6 1,
  yO 40 (.bd [yZ,yS,yS,yS,yS,yS] [(0,6,(.v 39))]),
  yM 41 3,
  yO 42 (.call (yC 37) [(.v 40),(.v 41)]),
  yO 43 (.nt (.v 42))])) <|
  .cond (.v 43) (.seq (.ops ([
   yO 2 (.mv (yI 300))])) <|
   .ret) (.nop))) <|
 .ops ([
 yO 44 (.bin .add false (.v 36) (yI 1)),
 yM 36 44])
noncomputable def il18l0:C:=il18l0b
theorem il18l0_go {P pol K I n f R e h}:wc P pol K I n f il18l0 R e h = wc P pol K I n f il18l0b R e h:=(fun x=>x) rfl
noncomputable def il18c:C :=
 .seq (.ops ([
 yO 1 (.bx false (.v 0)),
 yO 2 (.mv (yI 0))])) <|
 .seq (.seq (.ops ([
 yF 4 0 1,
 yD 5 3 4,
 yO 6 (.call (yC 32) [(.v 5)]),
 yO 7 (.bin .neq false (.v 6) (yI 0)),
 yM 8 7,
 yG 9 8 false (.fa 0 (.v 1)),
 yG 10 8 false (.ld true 3 (.v 9)),
 yG 11 8 false (.fa 3 (.v 1)),
 yG 12 8 false (.ld false 1 (.v 11)),
 yG 13 8 false (.call (yC 33) [(.v 10),(.v 12)]),
 yG 14 8 false (.nt (.v 13)),
 yO 15 (.pk (.v 8) (yB true) (.v 14))])) <| mkC [1,15] <|
 .cond (.v 15) (.seq (.ops ([
  yO 2 (.mv (yI 300))])) <|
  .ret) (.nop)) <|
 .seq (.seq (.ops ([
 yF 16 5 1,
 yL 17 1 16,
 yO 18 (.lenS (.v 17)),
 yF 19 0 1,
 yF 20 0 19,
 yL 21 1 20,
 yO 22 (.bin .neq false (.v 18) (.v 21)),
 yM 23 22,
 yG 24 23 false (.fa 4 (.v 1)),
 yG 25 23 false (.ld false 1 (.v 24)),
 yG 26 23 false (.lenS (.v 25)),
 yG 27 23 false (.fa 0 (.v 1)),
 yG 28 23 false (.fa 2 (.v 27))] ++ mkL [1,23,26,28] ([
 yG 29 23 false (.ld false 1 (.v 28)),
 yG 30 23 false (.lenS (.v 29)),
 yG 31 23 false (.bin .neq false (.v 26) (.v 30)),
 yO 32 (.pk (.v 23) (yB true) (.v 31))]))) <|
 .cond (.v 32) (.seq (.ops ([
  yO 2 (.mv (yI 300))])) <|
  .ret) (.nop)) <|
 .seq (.seq (.ops ([
 yF 33 5 1,
 yL 34 1 33,
 yO 35 (.lenS (.v 34)),
 yO 36 (.mv (yI 0))])) <|
 .block 0 (.loop (some [1,35,36]) il18l0)) <|
 .seq (.ops ([
 yO 2 (.mv (yI 0))])) <|
 .ret
theorem il18_eq:cFn Try.prog pol 18 = some ⟨45,il18c,[(2,none)]⟩:=by kernel_rfl
noncomputable def il21l0b:C :=
 .seq (.ops ([
 yO 25 (.bin .lss false (.v 24) (yI 3))])) <|
 .seq (.cond (.v 25) (.nop) (.exit 0)) <|
 .seq (.block 1 (.seq (.ops ([
  yO 26 (.ixA true 1 3 1 (.v 23) (.v 24)),
  yO 9 (.nw 1 (.agg [(.sc .nilFunc)])),
  yN (.st 1 (.v 9) (.v 26))])) <|
  .seq (.ops ([
  yF 27 0 9,
  yL 28 1 27,
  yO 29 (.call (.v 28) [(.v 6)]),
  yM 7 29])) <|
  .seq (.ops ([
  yM 30 7,
  yO 31 (.bin .neq false (.v 30) (yI 0))])) <|
  .cond (.v 31) (.exit 0) (.nop))) <|
 .ops ([
 yO 32 (.bin .add false (.v 24) (yI 1)),
 yM 24 32])
noncomputable def il21l0:C:=il21l0b
theorem il21l0_go {P pol K I n f R e h}:wc P pol K I n f il21l0 R e h = wc P pol K I n f il21l0b R e h:=(fun x=>x) rfl
noncomputable def il21c:C :=
 .seq (.ops ([
 yO 1 (.bx false (.v 0)),
 yO 2 (.nw 6 (.agg [yZ,yS,yS,yS,yS,yS])),
 yO 3 (.mv (yI 0))])) <|
 .seq (.seq (.ops ([
 yD 10 6 1,
 yO 11 (.call (yC 18) [(.v 10)]),
 yM 4 11])) <|
 .seq (.ops ([
 yM 12 4,
 yO 13 (.bin .neq false (.v 12) (yI 0))])) <|
 .cond (.v 13) (.seq (.ops ([
  yO 14 (.bd [yZ,yS,yS,yS,yS,yS] []),
  yM 15 4,
  yN (.st 6 (.v 2) (.v 14)),
  yM 3 15])) <|
  .ret) (.nop)) <|
 .seq (.ops ([
 yO 16 (.bd [(.sc .nilFunc)] [(0,1,(yC 39))]),
 yO 17 (.bd [(.sc .nilFunc)] [(0,1,(yC 40))])] ++ mkL [1,2,16,17] ([
 yO 18 (.bd [(.sc .nilFunc)] [(0,1,(yC 41))]),
 yO 19 (.bd [(.sc .nilFunc),(.sc .nilFunc),(.sc .nilFunc)] [(0,1,(.v 16)),(1,1,(.v 17)),(2,1,(.v 18))]),
 yO 5 (.nw 3 (.agg [(.sc .nilFunc),(.sc .nilFunc),(.sc .nilFunc)])),
 yN (.st 3 (.v 5) (.v 19))]))) <|
 .seq (.ops ([
 yD 20 6 1,
 yO 21 (.call (yC 30) [(.v 20)]),
 yO 22 (.bd [yZ,yS,yS,yS,yS,yS,yS] [(0,6,(.v 21))]),
 yO 6 (.nw 7 (.agg [yZ,yS,yS,yS,yS,yS,yS])),
 yN (.st 7 (.v 6) (.v 22))])) <|
 .seq (.ops ([
 yO 7 (.mv (yI 0))])) <|
 .seq (.nop) <|
 .seq (.seq (.ops ([
 yD 23 3 5,
 yO 24 (.mv (yI 0))])) <|
 .block 0 (.loop (some [2,6,7,23,24]) il21l0)) <|
 .seq (.seq (.ops ([
 yM 33 7,
 yO 34 (.bin .neq false (.v 33) (yI 0))])) <|
 .cond (.v 34) (.seq (.ops ([
  yO 35 (.bd [yZ,yS,yS,yS,yS,yS] []),
  yM 36 7,
  yN (.st 6 (.v 2) (.v 35)),
  yM 3 36])) <|
  .ret) (.nop)) <|
 .seq (.ops ([
 yF 37 0 6,
 yF 38 0 37,
 yD 39 6 38,
 yN (.st 6 (.v 2) (.v 39)),
 yO 3 (.mv (yI 0))])) <|
 .ret
theorem il21_eq:cFn Try.prog pol 21 = some ⟨40,il21c,[(2,some (true,6)),(3,none)]⟩:=by kernel_rfl
noncomputable def il23c:C :=
 .seq (.ops ([
 yO 2 (.mv (.c yS))])) <|
 .seq (.seq (.ops ([
 yM 3 0,
 yO 4 (.raw (opOf Try.prog 23 1 1))])) <|
 .cond (.v 4) (.seq (.ops ([
  yO 2 (.mv (.c yS))])) <|
  .ret) (.nop)) <|
 .seq (.ops ([
 yO 5 (.bs false 8 (.agg [(.sc (.bool false)),yZ,yZ,yZ,yZ,yZ,yZ,yZ]) 0 []),
 yM 6 0,
 yO 7 (.app 8 64 (.v 5) (.v 6)),
 yM 2 7])) <|
 .ret
theorem il23_eq:cFn Try.prog pol 23 = some ⟨8,il23c,[(2,none)]⟩:=by kernel_rfl
theorem raw23_1_1 {e:FEnv} {h:Heap}:iStep Try.prog pol 23 e h (.raw (opOf Try.prog 23 1 1)) = vOf h (binE Try.prog false 51 (.tmp 3) (.const (.slice none 0 0)) (Src.get e (.v 3)) (Src.get e (.c (.sc (.slice none 0 0))))):=raw_eql (x:=(.tmp 3)) (y:=(.const (.slice none 0 0))) (s:=51) (by kernel_rfl)
noncomputable def il24l0b:C :=
 .seq (.ops ([
 yO 25 (.bin .lss false (.v 24) (.v 23))])) <|
 .seq (.cond (.v 25) (.nop) (.exit 2)) <|
 .seq (.block 3 (.seq (.ops ([
  yO 26 (.iaS 1 (.v 22) (.v 24)),
  yL 27 1 26,
  yM 8 27])) <|
  .block 4 (.seq (.ops ([
   yF 36 0 2,
   yF 37 4 36,
   yL 38 1 37,
   yM 39 8,
   yO 40 (.bin .quo false (.v 39) (yI 2)),
   yO 41 (.iaS 1 (.v 38) (.v 40)),
   yL 42 1 41,
   yM 35 42])) <|
   .cond (.v 35) (.ops ([
    yL 43 1 5,
    yM 44 8] ++ mkL [2,3,5,6,22,23,24,43,44] ([
    yO 45 (.iaS 1 (.v 43) (.v 44)),
    yN (.st 1 (.v 45) (yI 0))]))) (.seq (.opsD [(3,6)] ([
    yF 47 0 2,
    yF 48 0 47] ++ mkL [2,3,5,6,8,22,23,24,48] ([
    yF 49 1 48,
    yP 50 49 (.ld false 1 (.v 49)),
    yP 51 2 (.ld true 6 (.v 2)),
    yM 52 8,
    yQ 53 (yC 45) [(.v 51),(.v 52)],
    yO 54 (.iaS 1 (.v 50) (.v 53)),
    yP 55 54 (.ld false 1 (.v 54)),
    yM 46 55]))) <|
    .cond (.v 46) (.ops ([
     yL 56 1 5,
     yM 57 8,
     yO 58 (.iaS 1 (.v 56) (.v 57)),
     yN (.st 1 (.v 58) (yI 2))])) (.opsD [(0,5)] ([
     yP 28 5 (.ld false 1 (.v 5)),
     yM 29 8,
     yP 30 3 (.ld false 1 (.v 3)),
     yM 31 6,
     yM 32 8,
     ⟨some 33,none,none,.cal (.v 30) [(.v 31),(.v 32)],.call (.v 30) [(.v 31),(.v 32)]⟩] ++ mkL [2,3,5,6,22,23,24,28,29,33] ([
     yO 34 (.iaS 1 (.v 28) (.v 29)),
     yT 34 (.st 1 (.v 34) (.v 33))]))))))) <|
 .ops ([
 yO 59 (.bin .add false (.v 24) (yI 1)),
 yM 24 59])
noncomputable def il24l0:C:=il24l0b
theorem il24l0_go {P pol K I n f R e h}:wc P pol K I n f il24l0 R e h = wc P pol K I n f il24l0b R e h:=(fun x=>x) rfl
noncomputable def il24r0a:C :=
 .ops ([
 yM 6 18])
noncomputable def il24r0b:C :=
 .block 1 (.seq (.ops ([
  yD 20 6 2,
  yM 21 6,
  yO 22 (.call (yC 44) [(.v 20),(.v 21)]),
  yO 23 (.lenS (.v 22)),
  yO 24 (.mv (yI 0))])) <|
  .block 2 (.loop (some [2,3,5,6,22,23,24]) il24l0))
theorem il24r0a_eq:cCode Try.prog pol 24 61 0 (rfOf Try.prog 24 0).1 = il24r0a:=by kernel_rfl
theorem il24r0b_eq:cCode Try.prog pol 24 61 0 (rfOf Try.prog 24 0).2 = il24r0b:=by kernel_rfl
noncomputable def il24c:C :=
 .seq (.ops ([
 yO 2 (.bx false (.v 0)),
 yO 3 (.bx false (.v 1)),
 yO 4 (.mv (.c yS))])) <|
 .seq (.ops ([
 yF 9 0 2,
 yF 10 0 9,
 yF 11 2 10,
 yL 12 1 11,
 yO 13 (.lenS (.v 12)),
 yO 14 (.bin .mul false (yI 2) (.v 13)),
 yO 15 (.raw (opOf Try.prog 24 1 6)),
 yO 5 (.nw 1 yS),
 yN (.st 1 (.v 5) (.v 15))])) <|
 .seq (.seq (.ops ([
 yD 16 6 2,
 yO 17 (.call (yC 26) [(.v 16)])])) <| mkC [2,3,4,5,17] <|
 .block 0 (.rangeF 61 (some [2,3,5]) (.v 17) [18,19] (rfOf Try.prog 24 0).1 (rfOf Try.prog 24 0).2)) <|
 .seq (.ops ([
 yL 60 1 5,
 yM 4 60])) <|
 .ret
theorem il24_eq:cFn Try.prog pol 24 = some ⟨61,il24c,[(4,none)]⟩:=by kernel_rfl
theorem raw24_1_6 {e:FEnv} {h:Heap}:iStep Try.prog pol 24 e h (.raw (opOf Try.prog 24 1 6)) = mkSl 1 8 (.sc (.int .i64 0)) h (asNat (Src.get e (.v 14))) (asNat (Src.get e (.v 14))):=raw_makeSlice (t:=31) (l:=(.tmp 14)) (c:=(.tmp 14)) (elem:=3) (by kernel_rfl) (by kernel_rfl) (by kernel_rfl) (by kernel_rfl) (by kernel_rfl) (by kernel_rfl) (by kernel_rfl)
noncomputable def il25l0b:C :=
 .seq (.ops ([
 yO 43 (.bin .lss false (.v 42) (.v 41))])) <|
 .seq (.cond (.v 43) (.nop) (.exit 2)) <|
 .seq (.block 3 (.seq (.ops ([
  yO 44 (.iaS 1 (.v 40) (.v 42)),
  yL 45 1 44,
  yM 10 45])) <|
  .seq (.seq (.opsD [(11,14)] ([
  yF 46 0 1,
  yF 47 4 46,
  yP 48 47 (.ld false 1 (.v 47)),
  yM 49 10,
  yO 50 (.bin .quo false (.v 49) (yI 2)),
  yO 51 (.iaS 1 (.v 48) (.v 50)),
  yP 52 51 (.ld false 1 (.v 51)),
  yM 53 52,
  yG 54 53 false (.fa 0 (.v 1)),
  yG 55 53 false (.fa 0 (.v 54))] ++ mkL [1,5,6,7,8,10,40,41,42,53,55] ([
  yG 56 53 false (.fa 1 (.v 55)),
  ⟨some 57,some (53,false),none,.objs [(.v 56)],.ld false 1 (.v 56)⟩,
  ⟨some 58,some (53,false),none,.objs [(.v 1)],.ld true 6 (.v 1)⟩,
  yG 59 53 false (.mv (.v 10)),
  ⟨some 60,some (53,false),none,.cal (yC 45) [(.v 58),(.v 59)],.call (yC 45) [(.v 58),(.v 59)]⟩,
  yG 61 53 false (.iaS 1 (.v 57) (.v 60)),
  ⟨some 62,some (53,false),none,.objs [(.v 61)],.ld false 1 (.v 61)⟩,
  yO 63 (.pk (.v 53) (yB true) (.v 62))]))) <|
  .cond (.v 63) (.exit 3) (.nop)) <|
  .seq (.opsD [(0,12),(5,12),(10,12),(11,12)] ([
  yP 64 6 (.ld false 1 (.v 6)),
  yM 65 10,
  yF 66 0 1,
  yF 67 0 66,
  yF 68 2 67,
  yP 69 68 (.ld false 1 (.v 68))] ++ mkL [1,5,6,7,8,10,40,41,42,64,65,69] ([
  yM 70 10,
  yO 71 (.bin .quo false (.v 70) (yI 2)),
  yO 72 (.iaS 4 (.v 69) (.v 71)),
  yF 73 2 72,
  yP 74 73 (.ld false 1 (.v 73)),
  ⟨some 75,none,none,.cal (.v 64) [(.v 65),(.v 74)],.call (.v 64) [(.v 65),(.v 74)]⟩,
  yO 11 (.nw 6 (.agg [yZ,yZ,yZ,yZ,yZ,yZ])),
  yT 11 (.st 6 (.v 11) (.v 75))]))) <|
  .seq (.ops ([
  yL 76 1 5,
  yM 77 7,
  yO 78 (.iaS 1 (.v 76) (.v 77)),
  yL 79 1 78,
  yO 80 (.bin .lss false (.v 79) (yI 0)),
  yM 81 80] ++ mkL [1,5,6,7,8,10,11,40,41,42,81] ([
  yG 82 81 false (.ld true 6 (.v 11)),
  yG 83 81 false (.ld true 6 (.v 8)),
  yG 84 81 false (.call (yC 49) [(.v 82),(.v 83)]),
  yG 85 81 false (.bin .lss false (.v 84) (yI 0)),
  yO 86 (.pk (.v 81) (yB true) (.v 85))]))) <|
  .cond (.v 86) (.opsD [(3,5)] ([
   yP 87 5 (.ld false 1 (.v 5)),
   yM 88 7,
   yM 89 10,
   yP 90 11 (.ld true 6 (.v 11)),
   yO 91 (.iaS 1 (.v 87) (.v 88)),
   yT 91 (.st 1 (.v 91) (.v 89)),
   yT 8 (.st 6 (.v 8) (.v 90))])) (.nop))) <|
 .ops ([
 yO 92 (.bin .add false (.v 42) (yI 1)),
 yM 42 92])
noncomputable def il25l0:C:=il25l0b
theorem il25l0_go {P pol K I n f R e h}:wc P pol K I n f il25l0 R e h = wc P pol K I n f il25l0b R e h:=(fun x=>x) rfl
noncomputable def il25r0a:C :=
 .ops ([
 yM 7 25])
noncomputable def il25r0b:C :=
 .block 1 (.seq (.ops ([
  yL 27 1 5,
  yM 28 7,
  yO 29 (.iaS 1 (.v 27) (.v 28)),
  yN (.st 1 (.v 29) (yI (-1)))])) <|
  .seq (.seq (.opsD [(0,6),(3,6)] ([
  yP 30 3 (.ld false 1 (.v 3)),
  yM 31 7,
  yO 32 (.iaS 2 (.v 30) (.v 31)),
  yP 33 32 (.ld true 2 (.v 32)),
  yP 34 1 (.ld true 6 (.v 1)),
  yM 35 7,
  yQ 36 (yC 36) [(.v 34),(.v 35)],
  yO 37 (.raw (opOf Try.prog 25 8 7))])) <|
  .cond (.v 37) (.exit 1) (.nop)) <|
  .seq (.ops ([
  yO 8 (.nw 6 (.agg [yZ,yZ,yZ,yZ,yZ,yZ]))])) <|
  .seq (.ops ([
  yD 38 6 1] ++ mkL [1,5,6,7,8,38] ([
  yM 39 7,
  yO 40 (.call (yC 44) [(.v 38),(.v 39)]),
  yO 41 (.lenS (.v 40)),
  yO 42 (.mv (yI 0))]))) <|
  .block 2 (.loop (some [1,5,6,7,8,40,41,42]) il25l0))
theorem il25r0a_eq:cCode Try.prog pol 25 94 0 (rfOf Try.prog 25 0).1 = il25r0a:=by kernel_rfl
theorem il25r0b_eq:cCode Try.prog pol 25 94 0 (rfOf Try.prog 25 0).2 = il25r0b:=by kernel_rfl
noncomputable def il25c:C :=
 .seq (.ops ([
 yO 1 (.bx false (.v 0)),
 yO 2 (.mv (.c (.sc .nilFunc)))])) <|
 .seq (.ops ([
 yD 12 6 1,
 yO 13 (.call (yC 46) [(.v 12)]),
 yO 3 (.nw 1 yS),
 yN (.st 1 (.v 3) (.v 13))])) <|
 .seq (.ops ([
 yD 14 6 1,
 yL 15 1 3,
 yO 16 (.call (yC 47) [(.v 14),(.v 15)]),
 yO 4 (.nw 1 yS),
 yN (.st 1 (.v 4) (.v 16))])) <|
 .seq (.ops ([
 yF 17 0 1,
 yF 18 0 17,
 yF 19 0 18] ++ mkL [1,2,3,4,19] ([
 yL 20 1 19,
 yO 21 (.raw (opOf Try.prog 25 3 4)),
 yO 5 (.nw 1 yS),
 yN (.st 1 (.v 5) (.v 21))]))) <|
 .seq (.ops ([
 ⟨some 22,none,some [(.v 1),(.v 4)],.objs [],.fn 48 [] [(.v 1),(.v 4)]⟩,
 yO 6 (.nw 1 (.sc .nilFunc)),
 yN (.st 1 (.v 6) (.v 22))])) <|
 .seq (.seq (.ops ([
 yD 23 6 1,
 yO 24 (.call (yC 26) [(.v 23)])])) <|
 .block 0 (.rangeF 94 (some [1,3,5,6]) (.v 24) [25,26] (rfOf Try.prog 25 0).1 (rfOf Try.prog 25 0).2)) <|
 .seq (.ops ([
 yO 93 (.fn 50 [] [(.v 4),(.v 1),(.v 5),(.v 6)]),
 yM 2 93])) <|
 .ret
theorem il25_eq:cFn Try.prog pol 25 = some ⟨94,il25c,[(2,none)]⟩:=by kernel_rfl
theorem raw25_3_4 {e:FEnv} {h:Heap}:iStep Try.prog pol 25 e h (.raw (opOf Try.prog 25 3 4)) = mkSl 1 8 (.sc (.int .i64 0)) h (asNat (Src.get e (.v 20))) (asNat (Src.get e (.v 20))):=raw_makeSlice (t:=31) (l:=(.tmp 20)) (c:=(.tmp 20)) (elem:=3) (by kernel_rfl) (by kernel_rfl) (by kernel_rfl) (by kernel_rfl) (by kernel_rfl) (by kernel_rfl) (by kernel_rfl)
theorem raw25_8_7 {e:FEnv} {h:Heap}:iStep Try.prog pol 25 e h (.raw (opOf Try.prog 25 8 7)) = vOf h (binE Try.prog false 50 (.tmp 33) (.tmp 36) (Src.get e (.v 33)) (Src.get e (.v 36))):=raw_eql (x:=(.tmp 33)) (y:=(.tmp 36)) (s:=50) (by kernel_rfl)
noncomputable def il26c:C :=
 .seq (.ops ([
 yO 1 (.bx false (.v 0)),
 yO 2 (.mv (.c (.sc .nilFunc)))])) <|
 .seq (.ops ([
 yO 3 (.fn 51 [] [(.v 1)]),
 yM 2 3])) <|
 .ret
theorem il26_eq:cFn Try.prog pol 26 = some ⟨4,il26c,[(2,none)]⟩:=by kernel_rfl
noncomputable def il27c:C :=
 .seq (.ops ([
 yO 1 (.bx false (.v 0)),
 yO 2 (.mv (.c yS)),
 yO 3 (.mv (yI 0))])) <|
 .seq (.ops ([
 yD 7 5 1,
 yO 8 (.call (yC 52) [(.v 7)]),
 yM 6 8,
 yO 9 (.ex (.v 6) 0),
 yO 10 (.ex (.v 6) 1),
 yO 4 (.nw 10 (.agg [yZ,yZ,yS,yS,yS,yZ,yZ,yZ,yZ,yZ])),
 yN (.st 10 (.v 4) (.v 9)),
 yM 5 10])) <|
 .seq (.seq (.ops ([
 yM 11 5,
 yO 12 (.bin .neq false (.v 11) (yI 0))])) <|
 .cond (.v 12) (.seq (.ops ([
  yM 13 5] ++ mkL [13] ([
  yO 2 (.mv (.c yS)),
  yM 3 13]))) <|
  .ret) (.nop)) <|
 .seq (.ops ([
 yD 14 10 4] ++ mkL [4,14] ([
 yD 15 10 4,
 yO 16 (.fn 54 [(.v 15)] []),
 yO 17 (.call (yC 53) [(.v 14),(.v 16)]),
 yM 2 17,
 yO 3 (.mv (yI 0))]))) <|
 .ret
theorem il27_eq:cFn Try.prog pol 27 = some ⟨18,il27c,[(2,none),(3,none)]⟩:=by kernel_rfl
noncomputable def il28c:C :=
 .seq (.ops ([
 yO 6 (.mv (yI 0))])) <|
 .seq (.opsD [(0,11),(3,11)] ([
 yP 7 2 (.ld false 1 (.v 2)),
 yM 8 0,
 yO 9 (.iaS 1 (.v 7) (.v 8)),
 yP 10 9 (.ld false 1 (.v 9)),
 yF 11 5 3,
 yP 12 11 (.ld false 1 (.v 11)),
 yM 13 0,
 yO 14 (.iaS 5 (.v 12) (.v 13)),
 yF 15 2 14,
 yP 16 15 (.ld false 1 (.v 15)),
 yM 17 1,
 yQ 18 (yC 29) [(.v 16),(.v 17)],
 yO 19 (.iaS 1 (.v 10) (.v 18))] ++ mkL [19] ([
 yP 20 19 (.ld false 1 (.v 19)),
 yM 6 20]))) <|
 .ret
theorem il28_eq:cFn Try.prog pol 28 = some ⟨21,il28c,[(6,none)]⟩:=by kernel_rfl
noncomputable def il29l0b:C :=
 .seq (.ops ([
 yO 9 (.bin .lss false (.v 8) (.v 7))])) <|
 .seq (.cond (.v 9) (.nop) (.exit 0)) <|
 .seq (.block 1 (.seq (.ops ([
  yM 10 8,
  yM 5 10])) <|
  .seq (.ops ([
  yM 11 1,
  yM 12 0,
  yM 13 5,
  yO 14 (.iaS 1 (.v 12) (.v 13)),
  yL 15 1 14,
  yO 16 (.bin .eql false (.v 11) (.v 15))])) <|
  .cond (.v 16) (.seq (.ops ([
   yM 17 5,
   yM 4 17])) <|
   .ret) (.nop))) <|
 .ops ([
 yO 18 (.bin .add false (.v 8) (yI 1)),
 yM 8 18])
noncomputable def il29l0:C:=il29l0b
theorem il29l0_go {P pol K I n f R e h}:wc P pol K I n f il29l0 R e h = wc P pol K I n f il29l0b R e h:=(fun x=>x) rfl
noncomputable def il29c:C :=
 .seq (.ops ([
 yO 4 (.mv (yI 0))])) <|
 .seq (.seq (.ops ([
 yM 6 0,
 yO 7 (.lenS (.v 6)),
 yO 8 (.mv (yI 0))])) <|
 .block 0 (.loop (some [0,1,7,8]) il29l0)) <|
 .seq (.ops ([
 yO 4 (.mv (yI (-1)))])) <|
 .ret
theorem il29_eq:cFn Try.prog pol 29 = some ⟨19,il29c,[(4,none)]⟩:=by kernel_rfl
noncomputable def il30l0b:C :=
 .seq (.ops ([
 yO 41 (.bin .lss false (.v 40) (.v 39))])) <|
 .seq (.cond (.v 41) (.nop) (.exit 0)) <|
 .seq (.block 1 (.seq (.ops ([
  yM 42 40,
  yO 43 (.iaS 5 (.v 38) (.v 40)),
  yD 44 5 43,
  yO 5 (.nw 5 (.agg [yZ,yZ,yS,yS,yS])),
  yM 4 42,
  yN (.st 5 (.v 5) (.v 44))])) <|
  .seq (.opsD [(1,5)] ([
  yF 45 5 3,
  yP 46 45 (.ld false 1 (.v 45)),
  yM 47 4,
  yF 48 2 5,
  yP 49 48 (.ld false 1 (.v 48)),
  yQ 50 (yC 55) [(.v 49)],
  yO 51 (.iaS 5 (.v 46) (.v 47))] ++ mkL [2,3,4,5,38,39,40,50,51] ([
  yF 52 2 51,
  yT 52 (.st 1 (.v 52) (.v 50))]))) <|
  .seq (.opsD [(1,5)] ([
  yF 53 5 3,
  yP 54 53 (.ld false 1 (.v 53)),
  yM 55 4,
  yF 56 3 5,
  yP 57 56 (.ld false 1 (.v 56)),
  yQ 58 (yC 55) [(.v 57)],
  yO 59 (.iaS 5 (.v 54) (.v 55)),
  yF 60 3 59,
  yT 60 (.st 1 (.v 60) (.v 58))])) <|
  .opsD [(1,5)] ([
  yF 61 5 3,
  yP 62 61 (.ld false 1 (.v 61)),
  yM 63 4] ++ mkL [2,3,5,38,39,40,62,63] ([
  yF 64 4 5,
  yP 65 64 (.ld false 1 (.v 64)),
  yQ 66 (yC 23) [(.v 65)],
  yO 67 (.iaS 5 (.v 62) (.v 63)),
  yF 68 4 67,
  yT 68 (.st 1 (.v 68) (.v 66))])))) <|
 .ops ([
 yO 69 (.bin .add false (.v 40) (yI 1)),
 yM 40 69])
noncomputable def il30l0:C:=il30l0b
theorem il30l0_go {P pol K I n f R e h}:wc P pol K I n f il30l0 R e h = wc P pol K I n f il30l0b R e h:=(fun x=>x) rfl
noncomputable def il30c:C :=
 .seq (.ops ([
 yO 1 (.bx false (.v 0)),
 yO 2 (.nw 6 (.agg [yZ,yS,yS,yS,yS,yS]))])) <|
 .seq (.opsD [(1,4),(4,6),(1,7),(1,9),(3,9),(4,9),(6,9),(7,9)] ([
 yF 6 0 1,
 yP 7 6 (.ld true 3 (.v 6)),
 yF 8 3 1,
 yP 9 8 (.ld false 1 (.v 8)),
 yQ 10 (yC 55) [(.v 9)],
 yF 11 4 1,
 yP 12 11 (.ld false 1 (.v 11)),
 yQ 13 (yC 56) [(.v 12)],
 yO 14 (.bd [yZ,yS,yS,yS,yS,yS] [(0,3,(.v 7)),(3,1,(.v 10)),(4,1,(.v 13))]),
 yO 3 (.nw 6 (.agg [yZ,yS,yS,yS,yS,yS])),
 yT 3 (.st 6 (.v 3) (.v 14))])) <|
 .seq (.ops ([
 yF 15 0 1] ++ mkL [1,2,3,15] ([
 yF 16 1 15,
 yL 17 1 16,
 yO 18 (.call (yC 56) [(.v 17)]),
 yF 19 0 3,
 yF 20 1 19,
 yN (.st 1 (.v 20) (.v 18))]))) <|
 .seq (.ops ([
 yF 21 0 1,
 yF 22 2 21,
 yL 23 1 22,
 yO 24 (.call (yC 57) [(.v 23)]),
 yF 25 0 3,
 yF 26 2 25,
 yN (.st 1 (.v 26) (.v 24))])) <|
 .seq (.ops ([
 yF 27 5 1] ++ mkL [1,2,3,27] ([
 yL 28 1 27,
 yO 29 (.lenS (.v 28)),
 yO 30 (.raw (opOf Try.prog 30 4 3)),
 yF 31 5 3,
 yN (.st 1 (.v 31) (.v 30))]))) <|
 .seq (.ops ([
 yF 32 5 3,
 yL 33 1 32,
 yF 34 5 1,
 yL 35 1 34,
 yO 36 (.raw (opOf Try.prog 30 5 4))])) <|
 .seq (.seq (.ops ([
 yF 37 5 1,
 yL 38 1 37,
 yO 39 (.lenS (.v 38)),
 yO 40 (.mv (yI 0))])) <| mkC [2,3,38,39,40] <|
 .block 0 (.loop (some [2,3,38,39,40]) il30l0)) <|
 .seq (.ops ([
 yD 70 6 3,
 yO 71 (.bd [yZ,yS,yS,yS,yS,yS] [(0,6,(.v 70))]),
 yN (.st 6 (.v 2) (.v 71))])) <|
 .ret
theorem il30_eq:cFn Try.prog pol 30 = some ⟨72,il30c,[(2,some (true,6))]⟩:=by kernel_rfl
theorem raw30_4_3 {e:FEnv} {h:Heap}:iStep Try.prog pol 30 e h (.raw (opOf Try.prog 30 4 3)) = mkSl 5 88 (.agg [(.sc (.int .i64 0)),(.sc (.int .i64 0)),(.sc (.slice none 0 0)),(.sc (.slice none 0 0)),(.sc (.slice none 0 0))]) h (asNat (Src.get e (.v 29))) (asNat (Src.get e (.v 29))):=raw_makeSlice (t:=32) (l:=(.tmp 29)) (c:=(.tmp 29)) (elem:=53) (by kernel_rfl) (by kernel_rfl) (by kernel_rfl) (by kernel_rfl) (by kernel_rfl) (by kernel_rfl) (by kernel_rfl)
theorem raw30_5_4 {e:FEnv} {h:Heap}:iStep Try.prog pol 30 e h (.raw (opOf Try.prog 30 5 4)) = cpA 5 (Src.get e (.v 33)) h (elemsOf h 5 (Src.get e (.v 35))):=raw_copy (t:=32) (ts:=[32]) (x:=(.tmp 33)) (y:=(.tmp 35)) (elem:=53) (by kernel_rfl) (by kernel_rfl) (by kernel_rfl) (by kernel_rfl)
noncomputable def il31c:C :=
 .seq (.ops ([
 yO 2 (.bx false (.v 0)),
 yO 3 (.bx false (.v 1)),
 yO 4 (.nw 5 (.agg [yZ,yZ,yS,yS,yS])),
 yO 5 (.mv (yI 0))])) <|
 .seq (.seq (.ops ([
 yD 7 5 2,
 yO 8 (.call (yC 58) [(.v 7)]),
 yM 6 8])) <|
 .seq (.ops ([
 yM 9 6,
 yO 10 (.bin .neq false (.v 9) (yI 0))])) <|
 .cond (.v 10) (.seq (.ops ([
  yO 11 (.bd [yZ,yZ,yS,yS,yS] []),
  yM 12 6,
  yN (.st 5 (.v 4) (.v 11)),
  yM 5 12])) <|
  .ret) (.nop)) <|
 .seq (.seq (.ops ([
 yL 13 1 3] ++ mkL [2,3,4,13] ([
 yO 14 (.bin .lss false (.v 13) (yI 0)),
 yM 15 14,
 yG 16 15 false (.ld false 1 (.v 3)),
 yG 17 15 false (.fa 2 (.v 2)),
 yG 18 15 false (.ld false 1 (.v 17)),
 yG 19 15 false (.lenS (.v 18)),
 yG 20 15 false (.bin .geq false (.v 16) (.v 19)),
 yO 21 (.pk (.v 15) (yB true) (.v 20))]))) <|
 .cond (.v 21) (.seq (.ops ([
  yO 22 (.bd [yZ,yZ,yS,yS,yS] []),
  yN (.st 5 (.v 4) (.v 22)),
  yO 5 (.mv (yI 2))])) <|
  .ret) (.nop)) <|
 .seq (.ops ([
 yD 23 5 2,
 yO 24 (.fn 60 [] [(.v 3)]),
 yO 25 (.call (yC 59) [(.v 23),(.v 24)])] ++ mkL [4,25] ([
 yN (.st 5 (.v 4) (.v 25)),
 yO 5 (.mv (yI 0))]))) <|
 .ret
theorem il31_eq:cFn Try.prog pol 31 = some ⟨26,il31c,[(4,some (true,5)),(5,none)]⟩:=by kernel_rfl
noncomputable def il32l0b:C :=
 .seq (.ops ([
 yO 40 (.bin .lss false (.v 39) (.v 38))])) <|
 .seq (.cond (.v 40) (.nop) (.exit 0)) <|
 .seq (.block 1 (.seq (.ops ([
  yO 41 (.iaS 4 (.v 37) (.v 39)),
  yD 42 4 41,
  yO 5 (.nw 4 (.agg [yZ,yZ,yZ,yZ])),
  yN (.st 4 (.v 5) (.v 42))])) <|
  .seq (.ops ([
  yM 43 3,
  yF 44 0 5,
  yL 45 1 44,
  yO 46 (.iaS 1 (.v 43) (.v 45)),
  yL 47 1 46,
  yO 48 (.bin .add false (.v 47) (yI 1)),
  yO 49 (.iaS 1 (.v 43) (.v 45)),
  yN (.st 1 (.v 49) (.v 48))])) <|
  .ops ([
  yM 50 3] ++ mkL [1,3,5,37,38,39,50] ([
  yF 51 1 5,
  yL 52 1 51,
  yO 53 (.iaS 1 (.v 50) (.v 52)),
  yL 54 1 53,
  yO 55 (.bin .add false (.v 54) (yI 1)),
  yO 56 (.iaS 1 (.v 50) (.v 52)),
  yN (.st 1 (.v 56) (.v 55))])))) <|
 .ops ([
 yO 57 (.bin .add false (.v 39) (yI 1)),
 yM 39 57])
noncomputable def il32l0:C:=il32l0b
theorem il32l0_go {P pol K I n f R e h}:wc P pol K I n f il32l0 R e h = wc P pol K I n f il32l0b R e h:=(fun x=>x) rfl
noncomputable def il32l1b:C :=
 .seq (.ops ([
 yO 62 (.bin .lss false (.v 61) (.v 60))])) <|
 .seq (.cond (.v 62) (.nop) (.exit 2)) <|
 .seq (.block 3 (.seq (.ops ([
  yM 63 61,
  yO 64 (.iaS 1 (.v 59) (.v 61)),
  yL 65 1 64,
  yM 6 63,
  yM 7 65])) <|
  .seq (.ops ([
  yM 66 7,
  yM 67 66,
  yG 68 67 true (.mv (.v 3)),
  yG 69 67 true (.mv (.v 6)),
  yG 70 67 true (.iaS 1 (.v 68) (.v 69)),
  yG 71 67 true (.ld false 1 (.v 70)),
  yG 72 67 true (.bin .lss false (.v 71) (yI 1)),
  yG 73 67 true (.mv (.v 72))] ++ mkL [1,3,6,59,60,61,67,73] ([
  yG 74 73 false (.mv (.v 3)),
  yG 75 73 false (.mv (.v 6)),
  yG 76 73 false (.iaS 1 (.v 74) (.v 75)),
  yG 77 73 false (.ld false 1 (.v 76)),
  yG 78 73 false (.bin .gtr false (.v 77) (yI 2)),
  yG 79 67 true (.pk (.v 73) (yB true) (.v 78)),
  yO 80 (.pk (.v 67) (.v 79) (yB false))]))) <|
  .cond (.v 80) (.seq (.ops ([
   yO 2 (.mv (yI 260))])) <|
   .ret) (.nop))) <|
 .ops ([
 yO 81 (.bin .add false (.v 61) (yI 1)),
 yM 61 81])
noncomputable def il32l1:C:=il32l1b
theorem il32l1_go {P pol K I n f R e h}:wc P pol K I n f il32l1 R e h = wc P pol K I n f il32l1b R e h:=(fun x=>x) rfl
noncomputable def il32c:C :=
 .seq (.ops ([
 yO 1 (.bx false (.v 0)),
 yO 2 (.mv (yI 0))])) <|
 .seq (.seq (.ops ([
 yF 8 0 1,
 yL 9 1 8,
 yO 10 (.bin .lss false (.v 9) (yI 2)),
 yM 11 10,
 yG 12 11 false (.fa 0 (.v 1)),
 yG 13 11 false (.ld false 1 (.v 12)),
 yG 14 11 false (.bin .gtr false (.v 13) (yI 12)),
 yO 15 (.pk (.v 11) (yB true) (.v 14)),
 yM 16 15,
 yG 17 16 false (.fa 1 (.v 1)),
 yG 18 16 false (.ld false 1 (.v 17)),
 yG 19 16 false (.lenS (.v 18))] ++ mkL [1,16,19] ([
 yG 20 16 false (.fa 0 (.v 1)),
 yG 21 16 false (.ld false 1 (.v 20)),
 yG 22 16 false (.bin .neq false (.v 19) (.v 21)),
 yO 23 (.pk (.v 16) (yB true) (.v 22))]))) <|
 .cond (.v 23) (.seq (.ops ([
  yO 2 (.mv (yI 260))])) <|
  .ret) (.nop)) <|
 .seq (.seq (.ops ([
 yF 24 2 1,
 yL 25 1 24,
 yO 26 (.lenS (.v 25)),
 yO 27 (.bin .gtr false (.v 26) (yI 24)),
 yM 28 27,
 yG 29 28 false (.ld true 3 (.v 1)),
 yG 30 28 false (.call (yC 61) [(.v 29)]),
 yG 31 28 false (.nt (.v 30)),
 yO 32 (.pk (.v 28) (yB true) (.v 31))])) <| mkC [1,32] <|
 .cond (.v 32) (.seq (.ops ([
  yO 2 (.mv (yI 260))])) <|
  .ret) (.nop)) <|
 .seq (.ops ([
 yF 33 0 1,
 yL 34 1 33,
 yO 35 (.raw (opOf Try.prog 32 5 2)),
 yM 3 35])) <|
 .seq (.seq (.ops ([
 yF 36 2 1,
 yL 37 1 36,
 yO 38 (.lenS (.v 37)),
 yO 39 (.mv (yI 0))])) <|
 .block 0 (.loop (some [1,3,37,38,39]) il32l0)) <|
 .seq (.seq (.ops ([
 yF 58 1 1,
 yL 59 1 58,
 yO 60 (.lenS (.v 59)),
 yO 61 (.mv (yI 0))])) <|
 .block 2 (.loop (some [1,3,59,60,61]) il32l1)) <|
 .seq (.seq (.ops ([
 yD 82 3 1,
 yO 83 (.bd [(.sc (.bool false)),(.sc (.bool false)),(.sc (.bool false)),(.sc (.bool false)),(.sc (.bool false)),(.sc (.bool false)),(.sc (.bool false)),(.sc (.bool false)),(.sc (.bool false)),(.sc (.bool false)),(.sc (.bool false)),(.sc (.bool false)),(.sc (.bool false)),(.sc (.bool false)),(.sc (.bool false)),(.sc (.bool false)),(.sc (.bool false)),(.sc (.bool false)),(.sc (.bool false)),(.sc (.bool false)),(.sc (.bool false)),(.sc (.bool false)),(.sc (.bool false)),(.sc (.bool false))] []),
 yO 84 (.call (yC 38) [(.v 82),(yI 0),(.v 83)]),
 yO 85 (.call (yC 62) [(.v 84),(yB false)])])) <|
 .cond (.v 85) (.seq (.ops ([
  yO 2 (.mv (yI 260))])) <|
  .ret) (.nop)) <|
 .seq (.ops ([
 yO 2 (.mv (yI 0))])) <|
 .ret
theorem il32_eq:cFn Try.prog pol 32 = some ⟨86,il32c,[(2,none)]⟩:=by kernel_rfl
theorem raw32_5_2 {e:FEnv} {h:Heap}:iStep Try.prog pol 32 e h (.raw (opOf Try.prog 32 5 2)) = mkSl 1 8 (.sc (.int .i64 0)) h (asNat (Src.get e (.v 34))) (asNat (Src.get e (.v 34))):=raw_makeSlice (t:=31) (l:=(.tmp 34)) (c:=(.tmp 34)) (elem:=3) (by kernel_rfl) (by kernel_rfl) (by kernel_rfl) (by kernel_rfl) (by kernel_rfl) (by kernel_rfl) (by kernel_rfl)
noncomputable def il33l0b:C :=
 .seq (.ops ([
 yO 15 (.bin .lss false (.v 14) (.v 13))])) <|
 .seq (.cond (.v 15) (.nop) (.exit 0)) <|
 .seq (.block 1 (.seq (.ops ([
  yO 16 (.iaS 1 (.v 12) (.v 14)),
  yL 17 1 16,
  yM 6 17])) <|
  .seq (.ops ([
  yM 18 6,
  yO 19 (.bin .lss false (.v 18) (yI 0)),
  yM 20 19,
  yG 21 20 false (.mv (.v 6)),
  yG 22 20 false (.bin .gtr false (.v 21) (yI 15)),
  yO 23 (.pk (.v 20) (yB true) (.v 22))])) <|
  .cond (.v 23) (.seq (.ops ([
   yO 4 (.mv (yB false))])) <|
   .ret) (.nop))) <|
 .ops ([
 yO 24 (.bin .add false (.v 14) (yI 1)),
 yM 14 24])
noncomputable def il33l0:C:=il33l0b
theorem il33l0_go {P pol K I n f R e h}:wc P pol K I n f il33l0 R e h = wc P pol K I n f il33l0b R e h:=(fun x=>x) rfl
noncomputable def il33c:C :=
 .seq (.ops ([
 yO 2 (.bx false (.v 0)),
 yO 4 (.mv (yB false))])) <|
 .seq (.seq (.ops ([
 yM 7 1,
 yO 8 (.lenS (.v 7)),
 yF 9 0 2,
 yL 10 1 9,
 yO 11 (.bin .neq false (.v 8) (.v 10))])) <|
 .cond (.v 11) (.seq (.ops ([
  yO 4 (.mv (yB false))])) <|
  .ret) (.nop)) <|
 .seq (.seq (.ops ([
 yM 12 1,
 yO 13 (.lenS (.v 12)),
 yO 14 (.mv (yI 0))])) <|
 .block 0 (.loop (some [12,13,14]) il33l0)) <|
 .seq (.ops ([
 yO 4 (.mv (yB true))])) <|
 .ret
theorem il33_eq:cFn Try.prog pol 33 = some ⟨25,il33c,[(4,none)]⟩:=by kernel_rfl
noncomputable def il34l0b:C :=
 .seq (.ops ([
 yO 13 (.bin .lss false (.v 12) (.v 11))])) <|
 .seq (.cond (.v 13) (.nop) (.exit 0)) <|
 .seq (.block 1 (.seq (.ops ([
  yO 14 (.iaS 1 (.v 10) (.v 12)),
  yL 15 1 14,
  yM 7 15])) <|
  .seq (.opsD [(3,6)] ([
  yF 16 0 2,
  yF 17 0 16,
  yF 18 1 17,
  yP 19 18 (.ld false 1 (.v 18)),
  yP 20 2 (.ld true 6 (.v 2)),
  yM 21 7,
  yQ 22 (yC 45) [(.v 20),(.v 21)],
  yO 23 (.iaS 1 (.v 19) (.v 22)),
  yP 24 23 (.ld false 1 (.v 23)),
  yO 25 (.nt (.v 24))])) <| mkC [2,4,5,7,10,11,12,25] <|
  .cond (.v 25) (.seq (.ops ([
   yM 26 4,
   yM 27 7,
   yO 28 (.bs false 1 yZ 1 [(0,(.v 27))]),
   yO 29 (.app 1 8 (.v 26) (.v 28)),
   yO 4 (.gmv 1 (.v 29))])) <|
   .ops ([
   yM 30 5,
   yF 31 0 2,
   yF 32 0 31,
   yF 33 2 32,
   yL 34 1 33,
   yM 35 7,
   yO 36 (.bin .quo false (.v 35) (yI 2)),
   yO 37 (.iaS 4 (.v 34) (.v 36)),
   yF 38 2 37] ++ mkL [2,4,10,11,12,30,38] ([
   yL 39 1 38,
   yO 40 (.bs false 1 yZ 1 [(0,(.v 39))]),
   yO 41 (.app 1 8 (.v 30) (.v 40)),
   yO 5 (.gmv 1 (.v 41))]))) (.nop))) <|
 .ops ([
 yO 42 (.bin .add false (.v 12) (yI 1)),
 yM 12 42])
noncomputable def il34l0:C:=il34l0b
theorem il34l0_go {P pol K I n f R e h}:wc P pol K I n f il34l0 R e h = wc P pol K I n f il34l0b R e h:=(fun x=>x) rfl
noncomputable def il34c:C :=
 .seq (.ops ([
 yO 2 (.bx false (.v 0)),
 yO 4 (.gmv 1 (.c yS)),
 yO 5 (.gmv 1 (.c yS))])) <|
 .seq (.seq (.ops ([
 yD 8 6 2,
 yM 9 1,
 yO 10 (.call (yC 44) [(.v 8),(.v 9)]),
 yO 11 (.lenS (.v 10)),
 yO 12 (.mv (yI 0))])) <|
 .block 0 (.loop (some [2,4,5,10,11,12]) il34l0)) <|
 .seq (.ops ([
 yM 43 4,
 yM 44 5,
 yO 4 (.gmv 1 (.v 43)),
 yO 5 (.gmv 1 (.v 44))])) <|
 .ret
theorem il34_eq:cFn Try.prog pol 34 = some ⟨45,il34c,[(4,none),(5,none)]⟩:=by kernel_rfl
noncomputable def il35c:C :=
 .seq (.ops ([
 yO 3 (.bx false (.v 0)),
 yO 6 (.nw 5 (.agg [yZ,yZ,yS,yS,yS])),
 yO 7 (.mv (yI 0))])) <|
 .seq (.opsD [(0,5),(0,7),(4,7)] ([
 yP 9 3 (.ld true 2 (.v 3)),
 yM 10 1,
 yM 11 2,
 yM 12 1,
 yP 13 12 (.lenS (.v 12)),
 yO 14 (.raw (opOf Try.prog 35 1 5)),
 yO 15 (.bd [yZ,yZ,yS,yS,yS] [(0,2,(.v 9)),(2,1,(.v 10)),(3,1,(.v 11)),(4,1,(.v 14))]),
 yO 8 (.nw 5 (.agg [yZ,yZ,yS,yS,yS])),
 yT 8 (.st 5 (.v 8) (.v 15))])) <|
 .seq (.seq (.ops ([
 yD 16 5 8,
 yO 17 (.call (yC 58) [(.v 16)])] ++ mkL [6,8,17] ([
 yO 18 (.bin .neq false (.v 17) (yI 0))]))) <|
 .cond (.v 18) (.seq (.ops ([
  yO 19 (.bd [yZ,yZ,yS,yS,yS] []),
  yN (.st 5 (.v 6) (.v 19)),
  yO 7 (.mv (yI 2))])) <|
  .ret) (.nop)) <|
 .seq (.ops ([
 yD 20 5 8,
 ⟨some 21,none,some [(yC 59),(.v 20),(yC 63)],.objs [],.call (yC 59) [(.v 20),(yC 63)]⟩,
 yN (.st 5 (.v 6) (.v 21)),
 yO 7 (.mv (yI 0))])) <|
 .ret
theorem il35_eq:cFn Try.prog pol 35 = some ⟨22,il35c,[(6,some (true,5)),(7,none)]⟩:=by kernel_rfl
theorem raw35_1_5 {e:FEnv} {h:Heap}:iStep Try.prog pol 35 e h (.raw (opOf Try.prog 35 1 5)) = mkSl 8 64 (.agg [(.sc (.bool false)),(.sc (.int .i64 0)),(.sc (.int .i64 0)),(.sc (.int .i64 0)),(.sc (.int .i64 0)),(.sc (.int .i64 0)),(.sc (.int .i64 0)),(.sc (.int .i64 0))]) h (asNat (Src.get e (.v 13))) (asNat (Src.get e (.v 13))):=raw_makeSlice (t:=51) (l:=(.tmp 13)) (c:=(.tmp 13)) (elem:=59) (by kernel_rfl) (by kernel_rfl) (by kernel_rfl) (by kernel_rfl) (by kernel_rfl) (by kernel_rfl) (by kernel_rfl)
noncomputable def il36c:C :=
 .seq (.ops ([
 yO 2 (.bx false (.v 0)),
 yO 4 (.nw 2 (.agg [yZ,yZ]))])) <|
 .seq (.ops ([
 yF 5 0 2,
 yF 6 3 5,
 yL 7 1 6,
 yM 8 1,
 yO 9 (.iaS 1 (.v 7) (.v 8)),
 yL 10 1 9,
 yM 11 1,
 yO 12 (.bd [yZ,yZ] [(0,1,(.v 10)),(1,1,(.v 11))]),
 yN (.st 2 (.v 4) (.v 12))])) <|
 .ret
theorem il36_eq:cFn Try.prog pol 36 = some ⟨13,il36c,[(4,some (true,2))]⟩:=by kernel_rfl
noncomputable def il37l0b:C :=
 .seq (.ops ([
 yO 77 (.bin .lss false (.v 76) (.v 75))])) <|
 .seq (.cond (.v 77) (.nop) (.exit 0)) <|
 .seq (.block 1 (.seq (.ops ([
  yM 78 76,
  yO 79 (.iaS 1 (.v 74) (.v 76)),
  yL 80 1 79,
  yM 8 78,
  yM 9 80])) <|
  .seq (.ops ([
  yF 81 0 2,
  yF 82 4 81,
  yL 83 1 82,
  yM 84 9,
  yO 85 (.bin .quo false (.v 84) (yI 2)),
  yO 86 (.iaS 1 (.v 83) (.v 85)),
  yL 87 1 86,
  yM 88 87] ++ mkL [2,5,8,74,75,76,88] ([
  yG 89 88 true (.fa 4 (.v 5)),
  yG 90 88 true (.ld false 1 (.v 89)),
  yG 91 88 true (.mv (.v 8)),
  yG 92 88 true (.iaS 8 (.v 90) (.v 91)),
  yG 93 88 true (.fa 0 (.v 92)),
  yG 94 88 true (.ld false 1 (.v 93)),
  yO 95 (.pk (.v 88) (.v 94) (yB false))]))) <|
  .cond (.v 95) (.seq (.ops ([
   yO 4 (.mv (yB false))])) <|
   .ret) (.nop))) <|
 .ops ([
 yO 96 (.bin .add false (.v 76) (yI 1)),
 yM 76 96])
noncomputable def il37l0:C:=il37l0b
theorem il37l0_go {P pol K I n f R e h}:wc P pol K I n f il37l0 R e h = wc P pol K I n f il37l0b R e h:=(fun x=>x) rfl
noncomputable def il37c:C :=
 .seq (.ops ([
 yO 2 (.bx false (.v 0)),
 yO 4 (.mv (yB false))])) <|
 .seq (.ops ([
 yF 10 0 2,
 yF 11 5 10,
 yL 12 1 11,
 yM 13 1,
 yO 14 (.iaS 5 (.v 12) (.v 13)),
 yD 15 5 14,
 yO 5 (.nw 5 (.agg [yZ,yZ,yS,yS,yS])),
 yN (.st 5 (.v 5) (.v 15))])) <|
 .seq (.seq (.ops ([
 yF 16 0 2,
 yF 17 0 16,
 yF 18 1 17,
 yL 19 1 18] ++ mkL [1,2,5,19] ([
 yM 20 1,
 yO 21 (.iaS 1 (.v 19) (.v 20)),
 yL 22 1 21]))) <|
 .cond (.v 22) (.seq (.ops ([
  yF 23 0 5,
  yD 24 2 23,
  yO 25 (.bd [yZ,yZ] []),
  yO 26 (.raw (opOf Try.prog 37 3 3)),
  yM 27 26,
  yG 28 27 true (.fa 2 (.v 5)),
  yG 29 27 true (.ld false 1 (.v 28)),
  yG 30 27 true (.lenS (.v 29)),
  yG 31 27 true (.bin .eql false (.v 30) (yI 0)),
  yO 32 (.pk (.v 27) (.v 31) (yB false)),
  yM 33 32] ++ mkL [5,33] ([
  yG 34 33 true (.fa 3 (.v 5)),
  yG 35 33 true (.ld false 1 (.v 34)),
  yG 36 33 true (.lenS (.v 35)),
  yG 37 33 true (.bin .eql false (.v 36) (yI 0)),
  yO 38 (.pk (.v 33) (.v 37) (yB false)),
  yM 39 38,
  yG 40 39 true (.fa 4 (.v 5)),
  yG 41 39 true (.ld false 1 (.v 40)),
  yG 42 39 true (.lenS (.v 41)),
  yG 43 39 true (.bin .eql false (.v 42) (yI 0)),
  yO 44 (.pk (.v 39) (.v 43) (yB false)),
  yM 4 44]))) <|
  .ret) (.nop)) <|
 .seq (.ops ([
 yD 46 6 2,
 yM 47 1] ++ mkL [1,2,5,46,47] ([
 yO 48 (.call (yC 34) [(.v 46),(.v 47)]),
 yM 45 48,
 yO 49 (.ex (.v 45) 0),
 yO 50 (.ex (.v 45) 1),
 yM 6 49,
 yM 7 50]))) <|
 .seq (.seq (.opsD [(5,8)] ([
 yP 51 5 (.ld true 5 (.v 5)),
 yQ 52 (yC 58) [(.v 51)],
 yO 53 (.bin .neq false (.v 52) (yI 0)),
 yM 54 53,
 yG 55 54 false (.fa 0 (.v 5)),
 ⟨some 56,some (54,false),none,.objs [(.v 55)],.ld true 2 (.v 55)⟩,
 ⟨some 57,some (54,false),none,.objs [(.v 2)],.ld true 6 (.v 2)⟩,
 yG 58 54 false (.mv (.v 1))] ++ mkL [2,5,6,7,54,56,57,58] ([
 ⟨some 59,some (54,false),none,.cal (yC 36) [(.v 57),(.v 58)],.call (yC 36) [(.v 57),(.v 58)]⟩,
 yG 60 54 false (.raw (opOf Try.prog 37 5 9)),
 yO 61 (.pk (.v 54) (yB true) (.v 60))]))) <|
 .cond (.v 61) (.seq (.ops ([
  yO 4 (.mv (yB false))])) <|
  .ret) (.nop)) <|
 .seq (.seq (.ops ([
 yF 62 2 5,
 yL 63 1 62,
 yM 64 6,
 yO 65 (.call (yC 12) [(.v 63),(.v 64)]),
 yO 66 (.nt (.v 65)),
 yM 67 66,
 yG 68 67 false (.fa 3 (.v 5)),
 yG 69 67 false (.ld false 1 (.v 68)),
 yG 70 67 false (.mv (.v 7)),
 yG 71 67 false (.call (yC 12) [(.v 69),(.v 70)])] ++ mkL [2,5,6,67,71] ([
 yG 72 67 false (.nt (.v 71)),
 yO 73 (.pk (.v 67) (yB true) (.v 72))]))) <|
 .cond (.v 73) (.seq (.ops ([
  yO 4 (.mv (yB false))])) <|
  .ret) (.nop)) <|
 .seq (.seq (.ops ([
 yM 74 6,
 yO 75 (.lenS (.v 74)),
 yO 76 (.mv (yI 0))])) <|
 .block 0 (.loop (some [2,5,74,75,76]) il37l0)) <|
 .seq (.ops ([
 yO 4 (.mv (yB true))])) <|
 .ret
theorem il37_eq:cFn Try.prog pol 37 = some ⟨97,il37c,[(4,none)]⟩:=by kernel_rfl
theorem raw37_3_3 {e:FEnv} {h:Heap}:iStep Try.prog pol 37 e h (.raw (opOf Try.prog 37 3 3)) = vOf h (binE Try.prog false 50 (.tmp 24) (.tmp 25) (Src.get e (.v 24)) (Src.get e (.v 25))):=raw_eql (x:=(.tmp 24)) (y:=(.tmp 25)) (s:=50) (by kernel_rfl)
theorem raw37_5_9 {e:FEnv} {h:Heap}:iStep Try.prog pol 37 e h (.raw (opOf Try.prog 37 5 9)) = vOf h (binE Try.prog true 50 (.tmp 56) (.tmp 59) (Src.get e (.v 56)) (Src.get e (.v 59))):=raw_neq (x:=(.tmp 56)) (y:=(.tmp 59)) (s:=50) (by kernel_rfl)
noncomputable def il38l0b:C :=
 .seq (.ops ([
 yO 24 (.bin .lss false (.v 23) (.v 22))])) <|
 .seq (.cond (.v 24) (.nop) (.exit 2)) <|
 .seq (.block 3 (.seq (.ops ([
  yM 25 23,
  yO 26 (.iaS 4 (.v 21) (.v 23)),
  yD 27 4 26,
  yO 9 (.nw 4 (.agg [yZ,yZ,yZ,yZ])),
  yM 8 25,
  yN (.st 4 (.v 9) (.v 27))])) <|
  .seq (.opsD [] ([
  yM 28 8,
  yO 29 (.iaA 24 1 (.v 5) (.v 28)),
  yP 30 29 (.ld false 1 (.v 29)),
  yO 31 (.nt (.v 30)),
  yM 32 31,
  yG 33 32 true (.mv (.v 7)),
  yG 34 32 true (.fa 0 (.v 9))] ++ mkL [3,5,7,9,17,18,21,22,23,32,33,34] ([
  ⟨some 35,some (32,true),none,.objs [(.v 34)],.ld false 1 (.v 34)⟩,
  yG 36 32 true (.iaS 1 (.v 33) (.v 35)),
  ⟨some 37,some (32,true),none,.objs [(.v 36)],.ld false 1 (.v 36)⟩,
  yG 38 32 true (.mv (.v 7)),
  yG 39 32 true (.fa 1 (.v 9)),
  ⟨some 40,some (32,true),none,.objs [(.v 39)],.ld false 1 (.v 39)⟩,
  yG 41 32 true (.iaS 1 (.v 38) (.v 40)),
  ⟨some 42,some (32,true),none,.objs [(.v 41)],.ld false 1 (.v 41)⟩,
  yG 43 32 true (.bin .neq true (.v 37) (.v 42)),
  yO 44 (.pk (.v 32) (.v 43) (yB false))]))) <|
  .cond (.v 44) (.opsD [(5,7)] ([
   yM 45 7,
   yF 46 0 9,
   yP 47 46 (.ld false 1 (.v 46)),
   yM 48 7] ++ mkL [3,5,7,9,17,18,21,22,23,45,47,48] ([
   yF 49 1 9,
   yP 50 49 (.ld false 1 (.v 49)),
   yO 51 (.iaS 1 (.v 45) (.v 47)),
   yT 51 (.st 1 (.v 51) (yB true)),
   yO 52 (.iaS 1 (.v 48) (.v 50)),
   yT 52 (.st 1 (.v 52) (yB true))]))) (.nop))) <|
 .ops ([
 yO 53 (.bin .add false (.v 23) (yI 1)),
 yM 23 53])
noncomputable def il38l0:C:=il38l0b
theorem il38l0_go {P pol K I n f R e h}:wc P pol K I n f il38l0 R e h = wc P pol K I n f il38l0b R e h:=(fun x=>x) rfl
noncomputable def il38l1b:C :=
 .seq (.ops ([
 yO 19 (.bin .lss false (.v 18) (.v 17))])) <|
 .seq (.cond (.v 19) (.nop) (.exit 0)) <|
 .seq (.block 1 (.seq (.ops ([
  yF 20 2 3,
  yL 21 1 20,
  yO 22 (.lenS (.v 21)),
  yO 23 (.mv (yI 0))])) <|
  .block 2 (.loop (some [3,5,7,17,18,21,22,23]) il38l0))) <|
 .ops ([
 yO 54 (.bin .add false (.v 18) (yI 1)),
 yM 18 54])
noncomputable def il38l1:C:=il38l1b
theorem il38l1_go {P pol K I n f R e h}:wc P pol K I n f il38l1 R e h = wc P pol K I n f il38l1b R e h:=(fun x=>x) rfl
noncomputable def il38c:C :=
 .seq (.ops ([
 yO 3 (.bx false (.v 0)),
 yO 5 (.bx false (.v 2)),
 yO 6 (.mv (.c yS))])) <|
 .seq (.ops ([
 yF 10 0 3,
 yL 11 1 10,
 yO 12 (.raw (opOf Try.prog 38 1 2)),
 yM 7 12])) <|
 .seq (.ops ([
 yM 13 7,
 yM 14 1,
 yO 15 (.iaS 1 (.v 13) (.v 14)),
 yN (.st 1 (.v 15) (yB true))])) <|
 .seq (.seq (.ops ([
 yF 16 0 3,
 yL 17 1 16,
 yO 18 (.mv (yI 0))])) <| mkC [3,5,7,17,18] <|
 .block 0 (.loop (some [3,5,7,17,18]) il38l1)) <|
 .seq (.ops ([
 yM 55 7,
 yM 6 55])) <|
 .ret
theorem il38_eq:cFn Try.prog pol 38 = some ⟨56,il38c,[(6,none)]⟩:=by kernel_rfl
theorem raw38_1_2 {e:FEnv} {h:Heap}:iStep Try.prog pol 38 e h (.raw (opOf Try.prog 38 1 2)) = mkSl 1 1 (.sc (.bool false)) h (asNat (Src.get e (.v 11))) (asNat (Src.get e (.v 11))):=raw_makeSlice (t:=27) (l:=(.tmp 11)) (c:=(.tmp 11)) (elem:=4) (by kernel_rfl) (by kernel_rfl) (by kernel_rfl) (by kernel_rfl) (by kernel_rfl) (by kernel_rfl) (by kernel_rfl)
noncomputable def il39r0a:C :=
 .seq (.ops ([
 yM 3 23])) <|
 .ops ([
 yO 4 (.nw 5 (.agg [yZ,yZ,yS,yS,yS])),
 yN (.st 5 (.v 4) (.v 24))])
noncomputable def il39r0b:C :=
 .block 1 (.seq (.ops ([
  yD 26 5 4,
  yO 27 (.call (yC 64) [(.v 26)]),
  yM 25 27,
  yO 28 (.ex (.v 25) 0),
  yO 29 (.ex (.v 25) 1),
  yM 5 28,
  yM 6 29])) <|
  .seq (.seq (.ops ([
  yM 30 6,
  yO 31 (.bin .neq false (.v 30) (yI 0))])) <|
  .cond (.v 31) (.seq (.ops ([
   yM 32 6,
   yN (.st 1 (.v 2) (.v 32))])) <|
   .ret) (.nop)) <|
  .ops ([
  yL 33 1 1,
  yO 34 (.nc (.v 33)),
  yF 35 6 34] ++ mkL [3,5,35] ([
  yL 36 1 35,
  yM 37 3,
  yM 38 5,
  yO 39 (.iaS 1 (.v 36) (.v 37)),
  yN (.st 1 (.v 39) (.v 38))])))
theorem il39r0a_eq:cCode Try.prog pol 39 40 0 (rfOf Try.prog 39 0).1 = il39r0a:=by kernel_rfl
theorem il39r0b_eq:cCode Try.prog pol 39 40 0 (rfOf Try.prog 39 0).2 = il39r0b:=by kernel_rfl
noncomputable def il39c:C :=
 .seq (.ops ([
 yO 1 (.bx false (.v 0)),
 yO 2 (.nw 1 yZ)])) <|
 .seq (.opsD [(0,8)] ([
 yP 7 1 (.ld false 1 (.v 1)),
 yP 8 1 (.ld false 1 (.v 1)),
 yO 9 (.nc (.v 8)),
 yF 10 0 9,
 yF 11 0 10,
 yF 12 5 11,
 yP 13 12 (.ld false 1 (.v 12)),
 yP 14 13 (.lenS (.v 13)),
 yO 15 (.raw (opOf Try.prog 39 1 8)),
 yO 16 (.nc (.v 7)),
 yF 17 6 16,
 yT 17 (.st 1 (.v 17) (.v 15))])) <| mkC [1,2] <|
 .seq (.seq (.ops ([
 yL 18 1 1,
 yO 19 (.nc (.v 18)),
 yF 20 0 19,
 yD 21 6 20,
 yO 22 (.call (yC 26) [(.v 21)])])) <|
 .block 0 (.rangeF 40 (some [1,2]) (.v 22) [23,24] (rfOf Try.prog 39 0).1 (rfOf Try.prog 39 0).2)) <|
 .seq (.ops ([
 yN (.st 1 (.v 2) (yI 0))])) <|
 .ret
theorem il39_eq:cFn Try.prog pol 39 = some ⟨40,il39c,[(2,some (false,1))]⟩:=by kernel_rfl
theorem raw39_1_8 {e:FEnv} {h:Heap}:iStep Try.prog pol 39 e h (.raw (opOf Try.prog 39 1 8)) = mkSl 1 24 (.sc (.slice none 0 0)) h (asNat (Src.get e (.v 14))) (asNat (Src.get e (.v 14))):=raw_makeSlice (t:=100) (l:=(.tmp 14)) (c:=(.tmp 14)) (elem:=51) (by kernel_rfl) (by kernel_rfl) (by kernel_rfl) (by kernel_rfl) (by kernel_rfl) (by kernel_rfl) (by kernel_rfl)
noncomputable def il40l0b:C :=
 .seq (.ops ([
 yO 28 (.bin .lss false (.v 27) (.v 26))])) <|
 .seq (.cond (.v 28) (.nop) (.exit 2)) <|
 .seq (.block 3 (.seq (.ops ([
  yM 29 27,
  yO 30 (.iaS 8 (.v 25) (.v 27)),
  yD 31 8 30,
  yO 6 (.nw 8 (.agg [(.sc (.bool false)),yZ,yZ,yZ,yZ,yZ,yZ,yZ])),
  yM 5 29,
  yN (.st 8 (.v 6) (.v 31))])) <|
  .seq (.ops ([
  yF 32 2 4,
  yL 33 1 32,
  yM 34 5,
  yO 35 (.iaS 1 (.v 33) (.v 34)),
  yL 36 1 35,
  yM 7 36])) <|
  .seq (.seq (.ops ([
  yF 37 0 6] ++ mkL [1,2,4,6,7,25,26,27,37] ([
  yL 38 1 37,
  yO 39 (.nt (.v 38)),
  yM 40 39,
  yG 41 40 false (.ld false 1 (.v 1)),
  yG 42 40 false (.nc (.v 41)),
  yG 43 40 false (.fa 0 (.v 42)),
  yG 44 40 false (.fa 0 (.v 43)),
  yG 45 40 false (.fa 4 (.v 44)),
  yG 46 40 false (.ld false 1 (.v 45)),
  yG 47 40 false (.mv (.v 7)),
  yG 48 40 false (.bin .quo false (.v 47) (yI 2)),
  yG 49 40 false (.iaS 1 (.v 46) (.v 48)),
  yG 50 40 false (.ld false 1 (.v 49)),
  yO 51 (.pk (.v 40) (yB true) (.v 50))]))) <| mkC [1,2,4,6,7,25,26,27,51] <|
  .cond (.v 51) (.exit 3) (.nop)) <|
  .seq (.ops ([
  yL 52 1 1,
  yO 53 (.nc (.v 52)),
  yF 54 0 53,
  yD 55 6 54,
  yM 56 7,
  yO 57 (.call (yC 45) [(.v 55),(.v 56)]),
  yM 8 57])) <|
  .seq (.ops ([
  yL 58 1 1,
  yO 59 (.nc (.v 58)),
  yF 60 0 59,
  yF 61 0 60,
  yF 62 5 61,
  yL 63 1 62,
  yM 64 8] ++ mkL [1,2,4,6,7,8,25,26,27,63,64] ([
  yO 65 (.iaS 5 (.v 63) (.v 64)),
  yF 66 2 65,
  yL 67 1 66,
  yM 68 7,
  yO 69 (.bin .xor false (.v 68) (yI 1)),
  yO 70 (.call (yC 29) [(.v 67),(.v 69)]),
  yM 9 70]))) <|
  .seq (.opsD [(0,16),(5,16),(8,16),(11,16),(12,16)] ([
  yP 72 1 (.ld false 1 (.v 1)),
  yO 73 (.nc (.v 72)),
  yF 74 0 73,
  yF 75 0 74,
  yF 76 5 75,
  yP 77 76 (.ld false 1 (.v 76)),
  yM 78 8] ++ mkL [1,2,4,6,8,9,25,26,27,77,78] ([
  yO 79 (.iaS 5 (.v 77) (.v 78)),
  yP 80 79 (.ld true 5 (.v 79)),
  yM 81 9,
  yF 82 1 6,
  yP 83 82 (.ld true 7 (.v 82)),
  yQ 84 (yC 65) [(.v 80),(.v 81),(.v 83)],
  yM 71 84,
  yO 85 (.ex (.v 71) 0),
  yO 86 (.ex (.v 71) 1),
  yO 10 (.nw 5 (.agg [yZ,yZ,yS,yS,yS])),
  yT 10 (.st 5 (.v 10) (.v 85)),
  yM 11 86]))) <|
  .seq (.seq (.ops ([
  yM 87 11,
  yO 88 (.bin .neq false (.v 87) (yI 0))])) <| mkC [1,2,4,8,10,11,25,26,27,88] <|
  .cond (.v 88) (.seq (.ops ([
   yM 89 11,
   yN (.st 1 (.v 2) (.v 89))])) <|
   .ret) (.nop)) <|
  .opsD [] ([
  yP 90 1 (.ld false 1 (.v 1)),
  yO 91 (.nc (.v 90)),
  yF 92 0 91,
  yF 93 0 92,
  yF 94 5 93,
  yP 95 94 (.ld false 1 (.v 94)),
  yM 96 8,
  yP 97 10 (.ld true 5 (.v 10)),
  yO 98 (.iaS 5 (.v 95) (.v 96)),
  yT 98 (.st 5 (.v 98) (.v 97))]))) <|
 .ops ([
 yO 99 (.bin .add false (.v 27) (yI 1)),
 yM 27 99])
noncomputable def il40l0:C:=il40l0b
theorem il40l0_go {P pol K I n f R e h}:wc P pol K I n f il40l0 R e h = wc P pol K I n f il40l0b R e h:=(fun x=>x) rfl
noncomputable def il40r0a:C :=
 .seq (.ops ([
 yM 3 17])) <|
 .ops ([
 yO 4 (.nw 5 (.agg [yZ,yZ,yS,yS,yS])),
 yN (.st 5 (.v 4) (.v 18))])
noncomputable def il40r0b:C :=
 .block 1 (.seq (.ops ([
  yL 19 1 1,
  yO 20 (.nc (.v 19)),
  yF 21 6 20,
  yL 22 1 21,
  yM 23 3,
  yO 24 (.iaS 1 (.v 22) (.v 23)),
  yL 25 1 24,
  yO 26 (.lenS (.v 25)),
  yO 27 (.mv (yI 0))])) <|
  .block 2 (.loop (some [1,2,4,25,26,27]) il40l0))
theorem il40r0a_eq:cCode Try.prog pol 40 100 0 (rfOf Try.prog 40 0).1 = il40r0a:=by kernel_rfl
theorem il40r0b_eq:cCode Try.prog pol 40 100 0 (rfOf Try.prog 40 0).2 = il40r0b:=by kernel_rfl
noncomputable def il40c:C :=
 .seq (.ops ([
 yO 1 (.bx false (.v 0)),
 yO 2 (.nw 1 yZ)])) <|
 .seq (.seq (.ops ([
 yL 12 1 1,
 yO 13 (.nc (.v 12)),
 yF 14 0 13,
 yD 15 6 14,
 yO 16 (.call (yC 26) [(.v 15)])])) <|
 .block 0 (.rangeF 100 (some [1,2]) (.v 16) [17,18] (rfOf Try.prog 40 0).1 (rfOf Try.prog 40 0).2)) <|
 .seq (.ops ([
 yN (.st 1 (.v 2) (yI 0))])) <|
 .ret
theorem il40_eq:cFn Try.prog pol 40 = some ⟨100,il40c,[(2,some (false,1))]⟩:=by kernel_rfl
noncomputable def il41r0a:C :=
 .seq (.ops ([
 yM 3 12])) <|
 .ops ([
 yO 4 (.nw 5 (.agg [yZ,yZ,yS,yS,yS])),
 yN (.st 5 (.v 4) (.v 13))])
noncomputable def il41r0b:C :=
 .block 1 (.seq (.ops ([
  yD 15 5 4,
  yO 16 (.call (yC 66) [(.v 15)]),
  yM 14 16,
  yO 17 (.ex (.v 14) 0),
  yO 18 (.ex (.v 14) 1),
  yO 5 (.nw 5 (.agg [yZ,yZ,yS,yS,yS])),
  yN (.st 5 (.v 5) (.v 17)),
  yM 6 18])) <|
  .seq (.seq (.ops ([
  yM 19 6,
  yO 20 (.bin .neq false (.v 19) (yI 0))])) <|
  .cond (.v 20) (.seq (.ops ([
   yM 21 6,
   yN (.st 1 (.v 2) (.v 21))])) <|
   .ret) (.nop)) <|
  .opsD [] ([
  yP 22 1 (.ld false 1 (.v 1)),
  yO 23 (.nc (.v 22))] ++ mkL [3,5,23] ([
  yF 24 0 23,
  yF 25 0 24,
  yF 26 5 25,
  yP 27 26 (.ld false 1 (.v 26)),
  yM 28 3,
  yP 29 5 (.ld true 5 (.v 5)),
  yO 30 (.iaS 5 (.v 27) (.v 28)),
  yT 30 (.st 5 (.v 30) (.v 29))])))
theorem il41r0a_eq:cCode Try.prog pol 41 31 0 (rfOf Try.prog 41 0).1 = il41r0a:=by kernel_rfl
theorem il41r0b_eq:cCode Try.prog pol 41 31 0 (rfOf Try.prog 41 0).2 = il41r0b:=by kernel_rfl
noncomputable def il41c:C :=
 .seq (.ops ([
 yO 1 (.bx false (.v 0)),
 yO 2 (.nw 1 yZ)])) <|
 .seq (.seq (.ops ([
 yL 7 1 1,
 yO 8 (.nc (.v 7)),
 yF 9 0 8,
 yD 10 6 9,
 yO 11 (.call (yC 26) [(.v 10)])])) <|
 .block 0 (.rangeF 31 (some [1,2]) (.v 11) [12,13] (rfOf Try.prog 41 0).1 (rfOf Try.prog 41 0).2)) <|
 .seq (.ops ([
 yN (.st 1 (.v 2) (yI 0))])) <|
 .ret
theorem il41_eq:cFn Try.prog pol 41 = some ⟨31,il41c,[(2,some (false,1))]⟩:=by kernel_rfl
noncomputable def il44c:C :=
 .seq (.ops ([
 yO 2 (.bx false (.v 0)),
 yO 4 (.mv (.c yS))])) <|
 .seq (.ops ([
 yF 8 0 2,
 yF 9 0 8,
 yD 10 3 9,
 yM 11 1,
 yO 12 (.call (yC 69) [(.v 10),(.v 11)]),
 yM 7 12,
 yO 13 (.ex (.v 7) 0),
 yO 14 (.ex (.v 7) 1),
 yM 5 13,
 yM 6 14])) <|
 .seq (.ops ([
 yM 15 5,
 yM 4 15])) <|
 .ret
theorem il44_eq:cFn Try.prog pol 44 = some ⟨16,il44c,[(4,none)]⟩:=by kernel_rfl
noncomputable def il45c:C :=
 .seq (.ops ([
 yO 2 (.bx false (.v 0)),
 yO 4 (.mv (yI 0))])) <|
 .seq (.ops ([
 yF 8 0 2,
 yF 9 0 8,
 yD 10 3 9,
 yM 11 1,
 yO 12 (.call (yC 70) [(.v 10),(.v 11)]),
 yM 7 12,
 yO 13 (.ex (.v 7) 0),
 yO 14 (.ex (.v 7) 1),
 yM 5 13,
 yM 6 14])) <|
 .seq (.ops ([
 yM 15 5,
 yM 4 15])) <|
 .ret
theorem il45_eq:cFn Try.prog pol 45 = some ⟨16,il45c,[(4,none)]⟩:=by kernel_rfl
noncomputable def il46l0b:C :=
 .seq (.ops ([
 yO 15 (.bin .lss false (.v 14) (.v 13))])) <|
 .seq (.cond (.v 15) (.nop) (.exit 0)) <|
 .seq (.block 1 (.seq (.ops ([
  yM 16 14,
  yM 4 16])) <|
  .opsD [(0,4)] ([
  yP 17 3 (.ld false 1 (.v 3)),
  yM 18 4,
  yP 19 1 (.ld true 6 (.v 1)),
  yM 20 4,
  yQ 21 (yC 36) [(.v 19),(.v 20)],
  yO 22 (.iaS 2 (.v 17) (.v 18)),
  yT 22 (.st 2 (.v 22) (.v 21))]))) <|
 .ops ([
 yO 23 (.bin .add false (.v 14) (yI 1)),
 yM 14 23])
noncomputable def il46l0:C:=il46l0b
theorem il46l0_go {P pol K I n f R e h}:wc P pol K I n f il46l0 R e h = wc P pol K I n f il46l0b R e h:=(fun x=>x) rfl
noncomputable def il46r0a:C :=
 .ops ([
 yO 5 (.nw 4 (.agg [yZ,yZ,yZ,yZ])),
 yN (.st 4 (.v 5) (.v 30))])
noncomputable def il46r0b:C :=
 .block 5 (.seq (.ops ([
  yL 31 1 3,
  yF 32 0 5,
  yL 33 1 32,
  yO 34 (.iaS 2 (.v 31) (.v 33)),
  yD 35 2 34,
  yO 6 (.nw 2 (.agg [yZ,yZ])),
  yN (.st 2 (.v 6) (.v 35))])) <|
  .seq (.seq (.opsD [] ([
  yP 36 3 (.ld false 1 (.v 3)),
  yF 37 1 5,
  yP 38 37 (.ld false 1 (.v 37)),
  yO 39 (.iaS 2 (.v 36) (.v 38)),
  yP 40 39 (.ld true 2 (.v 39)),
  yO 41 (.bd [yZ,yZ,yZ,yZ,yZ,yZ] [(0,2,(.v 40))]),
  yP 42 6 (.ld true 2 (.v 6))] ++ mkL [3,5,6,41,42] ([
  yO 43 (.bd [yZ,yZ,yZ,yZ,yZ,yZ] [(0,2,(.v 42))]),
  yQ 44 (yC 49) [(.v 41),(.v 43)],
  yO 45 (.bin .lss false (.v 44) (yI 0))]))) <|
  .cond (.v 45) (.ops ([
   yL 46 1 3,
   yF 47 1 5,
   yL 48 1 47,
   yO 49 (.iaS 2 (.v 46) (.v 48)),
   yD 50 2 49,
   yN (.st 2 (.v 6) (.v 50))])) (.nop)) <|
  .opsD [(3,9),(5,9),(7,9)] ([
  yP 51 3 (.ld false 1 (.v 3)),
  yF 52 0 5,
  yP 53 52 (.ld false 1 (.v 52)),
  yP 54 3 (.ld false 1 (.v 3)),
  yF 55 1 5] ++ mkL [6,51,53,54,55] ([
  yP 56 55 (.ld false 1 (.v 55)),
  yP 57 6 (.ld true 2 (.v 6)),
  yP 58 6 (.ld true 2 (.v 6)),
  yO 59 (.iaS 2 (.v 51) (.v 53)),
  yT 59 (.st 2 (.v 59) (.v 57)),
  yO 60 (.iaS 2 (.v 54) (.v 56)),
  yT 60 (.st 2 (.v 60) (.v 58))])))
theorem il46r0a_eq:cCode Try.prog pol 46 63 0 (rfOf Try.prog 46 0).1 = il46r0a:=by kernel_rfl
theorem il46r0b_eq:cCode Try.prog pol 46 63 0 (rfOf Try.prog 46 0).2 = il46r0b:=by kernel_rfl
noncomputable def il46l1b:C :=
 .seq (.ops ([
 yO 27 (.bin .lss false (.v 26) (.v 25))])) <|
 .seq (.cond (.v 27) (.nop) (.exit 2)) <|
 .seq (.block 3 (.seq (.ops ([
  yD 28 6 1,
  yO 29 (.call (yC 71) [(.v 28)])])) <|
  .block 4 (.rangeF 63 (some [3]) (.v 29) [30] (rfOf Try.prog 46 0).1 (rfOf Try.prog 46 0).2))) <|
 .ops ([
 yO 61 (.bin .add false (.v 26) (yI 1)),
 yM 26 61])
noncomputable def il46l1:C:=il46l1b
theorem il46l1_go {P pol K I n f R e h}:wc P pol K I n f il46l1 R e h = wc P pol K I n f il46l1b R e h:=(fun x=>x) rfl
noncomputable def il46c:C :=
 .seq (.ops ([
 yO 1 (.bx false (.v 0)),
 yO 2 (.mv (.c yS))])) <|
 .seq (.ops ([
 yF 7 0 1,
 yF 8 0 7,
 yF 9 0 8,
 yL 10 1 9,
 yO 11 (.raw (opOf Try.prog 46 1 4)),
 yO 3 (.nw 1 yS),
 yN (.st 1 (.v 3) (.v 11))])) <|
 .seq (.seq (.ops ([
 yL 12 1 3,
 yO 13 (.lenS (.v 12)),
 yO 14 (.mv (yI 0))])) <|
 .block 0 (.loop (some [1,2,3,13,14]) il46l0)) <|
 .seq (.seq (.ops ([
 yL 24 1 3,
 yO 25 (.lenS (.v 24)),
 yO 26 (.mv (yI 0))])) <|
 .block 2 (.loop (some [1,2,3,25,26]) il46l1)) <|
 .seq (.ops ([
 yL 62 1 3,
 yM 2 62])) <|
 .ret
theorem il46_eq:cFn Try.prog pol 46 = some ⟨63,il46c,[(2,none)]⟩:=by kernel_rfl
theorem raw46_1_4 {e:FEnv} {h:Heap}:iStep Try.prog pol 46 e h (.raw (opOf Try.prog 46 1 4)) = mkSl 2 16 (.agg [(.sc (.int .i64 0)),(.sc (.int .i64 0))]) h (asNat (Src.get e (.v 10))) (asNat (Src.get e (.v 10))):=raw_makeSlice (t:=107) (l:=(.tmp 10)) (c:=(.tmp 10)) (elem:=50) (by kernel_rfl) (by kernel_rfl) (by kernel_rfl) (by kernel_rfl) (by kernel_rfl) (by kernel_rfl) (by kernel_rfl)
noncomputable def il47l0b:C :=
 .seq (.ops ([
 yO 17 (.bin .lss false (.v 16) (.v 15))])) <|
 .seq (.cond (.v 17) (.nop) (.exit 0)) <|
 .seq (.block 1 (.seq (.ops ([
  yM 18 16,
  yM 6 18])) <|
  .seq (.opsD [(3,6)] ([
  yM 19 1,
  yM 20 6,
  yO 21 (.iaS 2 (.v 19) (.v 20)),
  yP 22 21 (.ld true 2 (.v 21)),
  yP 23 2 (.ld true 6 (.v 2)),
  yM 24 6,
  yQ 25 (yC 36) [(.v 23),(.v 24)],
  yO 26 (.raw (opOf Try.prog 47 5 7))])) <|
  .cond (.v 26) (.ops ([
   yL 27 1 5,
   yM 28 6,
   yO 29 (.iaS 1 (.v 27) (.v 28))] ++ mkL [1,2,4,5,15,16,29] ([
   yN (.st 1 (.v 29) (yI 12000))]))) (.nop))) <|
 .ops ([
 yO 30 (.bin .add false (.v 16) (yI 1)),
 yM 16 30])
noncomputable def il47l0:C:=il47l0b
theorem il47l0_go {P pol K I n f R e h}:wc P pol K I n f il47l0 R e h = wc P pol K I n f il47l0b R e h:=(fun x=>x) rfl
noncomputable def il47r0a:C :=
 .ops ([
 yO 8 (.nw 4 (.agg [yZ,yZ,yZ,yZ])),
 yN (.st 4 (.v 8) (.v 38))])
noncomputable def il47r0b:C :=
 .block 5 (.seq (.ops ([
  yL 39 1 7,
  yF 40 0 8,
  yL 41 1 40,
  yF 42 1 8,
  yL 43 1 42,
  yF 44 2 8,
  yL 45 1 44,
  yO 46 (.call (.v 39) [(.v 41),(.v 43),(.v 45)])])) <|
  .ops ([
  yL 47 1 7,
  yF 48 1 8,
  yL 49 1 48,
  yF 50 0 8,
  yL 51 1 50,
  yF 52 2 8] ++ mkL [47,49,51,52] ([
  yL 53 1 52,
  yO 54 (.call (.v 47) [(.v 49),(.v 51),(.v 53)])])))
theorem il47r0a_eq:cCode Try.prog pol 47 57 0 (rfOf Try.prog 47 0).1 = il47r0a:=by kernel_rfl
theorem il47r0b_eq:cCode Try.prog pol 47 57 0 (rfOf Try.prog 47 0).2 = il47r0b:=by kernel_rfl
noncomputable def il47l1b:C :=
 .seq (.ops ([
 yO 35 (.bin .lss false (.v 34) (.v 33))])) <|
 .seq (.cond (.v 35) (.nop) (.exit 2)) <|
 .seq (.block 3 (.seq (.ops ([
  yD 36 6 2,
  yO 37 (.call (yC 71) [(.v 36)])])) <|
  .block 4 (.rangeF 57 (some [7]) (.v 37) [38] (rfOf Try.prog 47 0).1 (rfOf Try.prog 47 0).2))) <|
 .ops ([
 yO 55 (.bin .add false (.v 34) (yI 1)),
 yM 34 55])
noncomputable def il47l1:C:=il47l1b
theorem il47l1_go {P pol K I n f R e h}:wc P pol K I n f il47l1 R e h = wc P pol K I n f il47l1b R e h:=(fun x=>x) rfl
noncomputable def il47c:C :=
 .seq (.ops ([
 yO 2 (.bx false (.v 0)),
 yO 4 (.mv (.c yS))])) <|
 .seq (.ops ([
 yF 9 0 2,
 yF 10 0 9,
 yF 11 0 10,
 yL 12 1 11,
 yO 13 (.raw (opOf Try.prog 47 1 4)),
 yO 5 (.nw 1 yS),
 yN (.st 1 (.v 5) (.v 13))])) <|
 .seq (.seq (.ops ([
 yL 14 1 5,
 yO 15 (.lenS (.v 14)),
 yO 16 (.mv (yI 0))])) <|
 .block 0 (.loop (some [1,2,4,5,15,16]) il47l0)) <|
 .seq (.ops ([
 yO 31 (.fn 72 [] [(.v 5)]),
 yO 7 (.nw 1 (.sc .nilFunc)),
 yN (.st 1 (.v 7) (.v 31))])) <|
 .seq (.seq (.ops ([
 yL 32 1 5,
 yO 33 (.lenS (.v 32)),
 yO 34 (.mv (yI 0))])) <|
 .block 2 (.loop (some [2,4,5,7,33,34]) il47l1)) <|
 .seq (.ops ([
 yL 56 1 5,
 yM 4 56])) <|
 .ret
theorem il47_eq:cFn Try.prog pol 47 = some ⟨57,il47c,[(4,none)]⟩:=by kernel_rfl
theorem raw47_1_4 {e:FEnv} {h:Heap}:iStep Try.prog pol 47 e h (.raw (opOf Try.prog 47 1 4)) = mkSl 1 8 (.sc (.int .i64 0)) h (asNat (Src.get e (.v 12))) (asNat (Src.get e (.v 12))):=raw_makeSlice (t:=31) (l:=(.tmp 12)) (c:=(.tmp 12)) (elem:=3) (by kernel_rfl) (by kernel_rfl) (by kernel_rfl) (by kernel_rfl) (by kernel_rfl) (by kernel_rfl) (by kernel_rfl)
theorem raw47_5_7 {e:FEnv} {h:Heap}:iStep Try.prog pol 47 e h (.raw (opOf Try.prog 47 5 7)) = vOf h (binE Try.prog true 50 (.tmp 22) (.tmp 25) (Src.get e (.v 22)) (Src.get e (.v 25))):=raw_neq (x:=(.tmp 22)) (y:=(.tmp 25)) (s:=50) (by kernel_rfl)
noncomputable def il48c:C :=
 .seq (.ops ([
 yO 6 (.nw 6 (.agg [yZ,yZ,yZ,yZ,yZ,yZ]))])) <|
 .seq (.ops ([
 yD 8 6 2,
 yM 9 0,
 yO 10 (.call (yC 45) [(.v 8),(.v 9)]),
 yM 7 10])) <|
 .seq (.opsD [(0,8),(3,8)] ([
 yP 11 3 (.ld false 1 (.v 3)),
 yM 12 7,
 yO 13 (.iaS 1 (.v 11) (.v 12)),
 yP 14 13 (.ld false 1 (.v 13)),
 yM 15 1,
 yO 16 (.bin .add false (.v 14) (.v 15)),
 yP 17 2 (.ld true 6 (.v 2)),
 yM 18 7,
 yQ 19 (yC 36) [(.v 17),(.v 18)]] ++ mkL [0,6,16,19] ([
 yM 20 0,
 yO 21 (.bin .xor false (.v 20) (yI 1)),
 yO 22 (.bd [yZ,yZ,yZ,yZ,yZ,yZ] [(2,1,(.v 16)),(3,2,(.v 19)),(5,1,(.v 21))]),
 yT 6 (.st 6 (.v 6) (.v 22))]))) <|
 .ret
theorem il48_eq:cFn Try.prog pol 48 = some ⟨23,il48c,[(6,some (true,6))]⟩:=by kernel_rfl
noncomputable def il49l0b:C :=
 .seq (.ops ([
 yO 17 (.bin .lss false (.v 16) (yI 6))])) <|
 .seq (.cond (.v 17) (.nop) (.exit 0)) <|
 .seq (.block 1 (.seq (.ops ([
  yM 18 16,
  yM 8 18])) <|
  .seq (.opsD [] ([
  yM 19 8,
  yO 20 (.iaA 6 1 (.v 5) (.v 19)),
  yP 21 20 (.ld false 1 (.v 20)),
  yM 22 8,
  yO 23 (.iaA 6 1 (.v 6) (.v 22)),
  yP 24 23 (.ld false 1 (.v 23)),
  yQ 25 (yC 74) [(.v 21),(.v 24)],
  yM 7 25])) <|
  .seq (.ops ([
  yM 26 7,
  yO 27 (.bin .neq false (.v 26) (yI 0))])) <|
  .cond (.v 27) (.exit 0) (.nop))) <|
 .ops ([
 yO 28 (.bin .add false (.v 16) (yI 1))] ++ mkL [5,6,7,28] ([
 yM 16 28]))
noncomputable def il49l0:C:=il49l0b
theorem il49l0_go {P pol K I n f R e h}:wc P pol K I n f il49l0 R e h = wc P pol K I n f il49l0b R e h:=(fun x=>x) rfl
noncomputable def il49c:C :=
 .seq (.ops ([
 yO 2 (.bx false (.v 0)),
 yO 3 (.bx false (.v 1)),
 yO 4 (.mv (yI 0))])) <|
 .seq (.seq (.ops ([
 yD 9 6 2,
 yD 10 6 3,
 yO 11 (.raw (opOf Try.prog 49 1 2))])) <|
 .cond (.v 11) (.seq (.ops ([
  yO 4 (.mv (yI 0))])) <|
  .ret) (.nop)) <|
 .seq (.opsD [(1,2),(0,4),(1,4),(2,4),(3,4),(0,5),(1,5),(2,5),(3,5)] ([
 yP 12 2 (.ld true 6 (.v 2)),
 yQ 13 (yC 73) [(.v 12)],
 yP 14 3 (.ld true 6 (.v 3)),
 yQ 15 (yC 73) [(.v 14)],
 yO 5 (.nw 6 (.agg [yZ,yZ,yZ,yZ,yZ,yZ])),
 yO 6 (.nw 6 (.agg [yZ,yZ,yZ,yZ,yZ,yZ])),
 yT 5 (.st 6 (.v 5) (.v 13))] ++ mkL [5,6,15] ([
 yT 6 (.st 6 (.v 6) (.v 15))]))) <|
 .seq (.ops ([
 yO 7 (.mv (yI 0))])) <|
 .seq (.nop) <|
 .seq (.seq (.ops ([
 yO 16 (.mv (yI 0))])) <|
 .block 0 (.loop (some [5,6,7,16]) il49l0)) <|
 .seq (.ops ([
 yM 29 7,
 yM 4 29])) <|
 .ret
theorem il49_eq:cFn Try.prog pol 49 = some ⟨30,il49c,[(4,none)]⟩:=by kernel_rfl
theorem raw49_1_2 {e:FEnv} {h:Heap}:iStep Try.prog pol 49 e h (.raw (opOf Try.prog 49 1 2)) = vOf h (binE Try.prog false 55 (.tmp 9) (.tmp 10) (Src.get e (.v 9)) (Src.get e (.v 10))):=raw_eql (x:=(.tmp 9)) (y:=(.tmp 10)) (s:=55) (by kernel_rfl)
noncomputable def il50c:C :=
 .seq (.ops ([
 yO 8 (.mv (yI 0))])) <|
 .seq (.opsD [(0,6),(3,6),(0,9),(3,9),(4,9),(6,9)] ([
 yP 10 2 (.ld false 1 (.v 2)),
 yM 11 0,
 yO 12 (.iaS 1 (.v 10) (.v 11)),
 yP 13 12 (.ld false 1 (.v 12)),
 yP 14 3 (.ld true 6 (.v 3)),
 yM 15 0,
 yQ 16 (yC 36) [(.v 14),(.v 15)],
 yM 17 1,
 yO 18 (.bd [yZ,yZ,yZ,yZ,yZ,yZ] [(2,1,(.v 13)),(3,2,(.v 16)),(5,1,(.v 17))]),
 yO 9 (.nw 6 (.agg [yZ,yZ,yZ,yZ,yZ,yZ])),
 yT 9 (.st 6 (.v 9) (.v 18))])) <|
 .seq (.block 0 (.seq (.ops ([
  yM 20 1,
  yL 21 1 4] ++ mkL [0,1,5,9,20,21] ([
  yM 22 0,
  yO 23 (.iaS 1 (.v 21) (.v 22)),
  yL 24 1 23,
  yO 25 (.bin .eql false (.v 20) (.v 24)),
  yM 19 25]))) <|
  .cond (.v 19) (.seq (.ops ([
   yO 8 (.mv (yI 1))])) <|
   .ret) (.seq (.opsD [(0,3)] ([
   yP 27 9 (.ld true 6 (.v 9)),
   yP 28 5 (.ld false 1 (.v 5)),
   yM 29 1,
   ⟨some 30,none,none,.cal (.v 28) [(.v 29),(yI 0)],.call (.v 28) [(.v 29),(yI 0)]⟩,
   yQ 31 (yC 49) [(.v 27),(.v 30)],
   yO 32 (.bin .lss false (.v 31) (yI 0)),
   yM 26 32])) <|
   .cond (.v 26) (.seq (.ops ([
    yO 8 (.mv (yI 2))])) <|
    .ret) (.nop)))) <|
 .seq (.ops ([
 yO 8 (.mv (yI 3))])) <|
 .ret
theorem il50_eq:cFn Try.prog pol 50 = some ⟨33,il50c,[(8,none)]⟩:=by kernel_rfl
noncomputable def il51l0b:C :=
 .seq (.ops ([
 yO 10 (.bin .lss false (.v 9) (.v 8))])) <|
 .seq (.cond (.v 10) (.nop) (.exit 0)) <|
 .seq (.block 1 (.seq (.ops ([
  yM 11 9,
  yO 12 (.iaS 5 (.v 7) (.v 9)),
  yD 13 5 12,
  yO 4 (.nw 5 (.agg [yZ,yZ,yS,yS,yS])),
  yM 3 11,
  yN (.st 5 (.v 4) (.v 13))])) <|
  .seq (.ops ([
  yF 14 0 1,
  yF 15 0 14,
  yF 16 1 15,
  yL 17 1 16,
  yM 18 3,
  yO 19 (.iaS 1 (.v 17) (.v 18)),
  yL 20 1 19] ++ mkL [0,1,3,4,7,8,9,20] ([
  yO 21 (.nt (.v 20)),
  yM 22 21,
  yG 23 22 true (.mv (.v 0)),
  yG 24 22 true (.mv (.v 3)),
  yG 25 22 true (.ld true 5 (.v 4)),
  yG 26 22 true (.call (.v 23) [(.v 24),(.v 25)]),
  yG 27 22 true (.nt (.v 26)),
  yO 28 (.pk (.v 22) (.v 27) (yB false))]))) <|
  .cond (.v 28) (.ret) (.nop))) <|
 .ops ([
 yO 29 (.bin .add false (.v 9) (yI 1)),
 yM 9 29])
noncomputable def il51l0:C:=il51l0b
theorem il51l0_go {P pol K I n f R e h}:wc P pol K I n f il51l0 R e h = wc P pol K I n f il51l0b R e h:=(fun x=>x) rfl
noncomputable def il51c:C :=
 .seq (.ops ([
 yF 5 0 1,
 yF 6 5 5,
 yL 7 1 6,
 yO 8 (.lenS (.v 7)),
 yO 9 (.mv (yI 0))])) <|
 .block 0 (.loop (some [0,1,7,8,9]) il51l0)
theorem il51_eq:cFn Try.prog pol 51 = some ⟨30,il51c,[]⟩:=by kernel_rfl
noncomputable def il52r0a:C :=
 .seq (.ops ([
 yM 7 22])) <|
 .ops ([
 yO 8 (.nw 6 (.agg [yZ,yZ,yZ,yZ,yZ,yZ])),
 yN (.st 6 (.v 8) (.v 23))])
noncomputable def il52r0b:C :=
 .block 1 (.seq (.ops ([
  yF 24 5 5,
  yF 25 3 24,
  yL 26 1 25,
  yO 27 (.bin .lss false (.v 26) (yI 0)),
  yM 28 27,
  yG 29 28 false (.ld true 6 (.v 8)),
  yG 30 28 false (.ld true 6 (.v 6)),
  yG 31 28 false (.call (yC 49) [(.v 29),(.v 30)]),
  yG 32 28 false (.bin .lss false (.v 31) (yI 0)),
  yO 33 (.pk (.v 28) (yB true) (.v 32))])) <|
  .cond (.v 33) (.seq (.ops ([
   yD 34 6 8,
   yN (.st 6 (.v 6) (.v 34))])) <|
   .opsD [] ([
   yF 35 0 8,
   yP 36 35 (.ld true 2 (.v 35))] ++ mkL [1,5,7,8,36] ([
   yF 37 2 8,
   yP 38 37 (.ld false 1 (.v 37)),
   yM 39 7,
   yF 40 4 1,
   yP 41 40 (.ld false 1 (.v 40)),
   yM 42 7,
   yO 43 (.iaS 8 (.v 41) (.v 42)),
   yF 44 1 43,
   yF 45 6 44,
   yP 46 45 (.ld false 1 (.v 45)),
   yO 47 (.bd [yZ,yZ,yZ,yZ,yZ] [(0,2,(.v 36)),(2,1,(.v 38)),(3,1,(.v 39)),(4,1,(.v 46))]),
   yF 48 5 5,
   yT 48 (.st 5 (.v 48) (.v 47))]))) (.nop))
theorem il52r0a_eq:cCode Try.prog pol 52 50 0 (rfOf Try.prog 52 0).1 = il52r0a:=by kernel_rfl
theorem il52r0b_eq:cCode Try.prog pol 52 50 0 (rfOf Try.prog 52 0).2 = il52r0b:=by kernel_rfl
noncomputable def il52c:C :=
 .seq (.ops ([
 yO 1 (.bx false (.v 0)),
 yO 2 (.nw 10 (.agg [yZ,yZ,yS,yS,yS,yZ,yZ,yZ,yZ,yZ])),
 yO 3 (.mv (yI 0))])) <|
 .seq (.seq (.ops ([
 yD 9 5 1,
 yO 10 (.call (yC 58) [(.v 9)]),
 yM 4 10])) <|
 .seq (.ops ([
 yM 11 4,
 yO 12 (.bin .neq false (.v 11) (yI 0))])) <|
 .cond (.v 12) (.seq (.ops ([
  yO 13 (.bd [yZ,yZ,yS,yS,yS,yZ,yZ,yZ,yZ,yZ] []),
  yM 14 4,
  yN (.st 10 (.v 2) (.v 13)),
  yM 3 14])) <|
  .ret) (.nop)) <|
 .seq (.ops ([
 yD 15 5 1,
 yF 16 0 1] ++ mkL [1,2,3,15,16] ([
 yD 17 2 16,
 yO 18 (.bd [yZ,yZ,yZ,yZ,yZ] [(0,2,(.v 17)),(3,1,(yI (-1)))]),
 yO 19 (.bd [yZ,yZ,yS,yS,yS,yZ,yZ,yZ,yZ,yZ] [(0,5,(.v 15)),(5,5,(.v 18))]),
 yO 5 (.nw 10 (.agg [yZ,yZ,yS,yS,yS,yZ,yZ,yZ,yZ,yZ])),
 yN (.st 10 (.v 5) (.v 19))]))) <|
 .seq (.ops ([
 yO 6 (.nw 6 (.agg [yZ,yZ,yZ,yZ,yZ,yZ]))])) <|
 .seq (.seq (.ops ([
 yD 20 10 5,
 yO 21 (.call (yC 75) [(.v 20)])])) <|
 .block 0 (.rangeF 50 (some [1,5,6]) (.v 21) [22,23] (rfOf Try.prog 52 0).1 (rfOf Try.prog 52 0).2)) <|
 .seq (.ops ([
 yD 49 10 5,
 yN (.st 10 (.v 2) (.v 49)),
 yO 3 (.mv (yI 0))])) <|
 .ret
theorem il52_eq:cFn Try.prog pol 52 = some ⟨50,il52c,[(2,some (true,10)),(3,none)]⟩:=by kernel_rfl
noncomputable def il53l0b:C :=
 .seq (.ops ([
 yO 15 (.bin .lss false (.v 14) (.v 13))])) <|
 .seq (.cond (.v 15) (.nop) (.exit 0)) <|
 .seq (.block 1 (.seq (.ops ([
  yM 16 14,
  yM 6 16])) <|
  .ops ([
  yM 17 5,
  yM 18 6,
  yM 19 1,
  yM 20 6,
  yO 21 (.call (.v 19) [(.v 20)]),
  yO 22 (.iaS 1 (.v 17) (.v 18)),
  yN (.st 1 (.v 22) (.v 21))]))) <|
 .ops ([
 yO 23 (.bin .add false (.v 14) (yI 1)),
 yM 14 23])
noncomputable def il53l0:C:=il53l0b
theorem il53l0_go {P pol K I n f R e h}:wc P pol K I n f il53l0 R e h = wc P pol K I n f il53l0b R e h:=(fun x=>x) rfl
noncomputable def il53c:C :=
 .seq (.ops ([
 yO 2 (.bx false (.v 0)),
 yO 4 (.mv (.c yS))])) <|
 .seq (.ops ([
 yF 7 0 2,
 yF 8 2 7,
 yL 9 1 8,
 yO 10 (.lenS (.v 9)),
 yO 11 (.raw (opOf Try.prog 53 1 4)),
 yM 5 11])) <|
 .seq (.seq (.ops ([
 yM 12 5,
 yO 13 (.lenS (.v 12)),
 yO 14 (.mv (yI 0))])) <|
 .block 0 (.loop (some [1,5,13,14]) il53l0)) <|
 .seq (.ops ([
 yM 24 5,
 yM 4 24])) <|
 .ret
theorem il53_eq:cFn Try.prog pol 53 = some ⟨25,il53c,[(4,none)]⟩:=by kernel_rfl
theorem raw53_1_4 {e:FEnv} {h:Heap}:iStep Try.prog pol 53 e h (.raw (opOf Try.prog 53 1 4)) = mkSl 1 8 (.sc (.int .i64 0)) h (asNat (Src.get e (.v 10))) (asNat (Src.get e (.v 10))):=raw_makeSlice (t:=31) (l:=(.tmp 10)) (c:=(.tmp 10)) (elem:=3) (by kernel_rfl) (by kernel_rfl) (by kernel_rfl) (by kernel_rfl) (by kernel_rfl) (by kernel_rfl) (by kernel_rfl)
noncomputable def il54c:C :=
 .seq (.ops ([
 yO 2 (.bx false (.v 0)),
 yO 4 (.mv (yI 0))])) <|
 .seq (.seq (.ops ([
 yF 6 0 2,
 yF 7 4 6,
 yL 8 1 7,
 yM 9 1,
 yO 10 (.iaS 8 (.v 8) (.v 9)),
 yD 11 8 10,
 yO 5 (.nw 8 (.agg [(.sc (.bool false)),yZ,yZ,yZ,yZ,yZ,yZ,yZ])),
 yN (.st 8 (.v 5) (.v 11))])) <|
 .block 0 (.seq (.ops ([
  yM 13 1,
  yF 14 5 2,
  yF 15 3 14,
  yL 16 1 15] ++ mkL [1,2,5,13,16] ([
  yO 17 (.bin .eql false (.v 13) (.v 16)),
  yM 12 17]))) <|
  .cond (.v 12) (.seq (.ops ([
   yO 4 (.mv (yI 1))])) <|
   .ret) (.seq (.opsD [(6,9)] ([
   yF 19 0 5,
   yP 20 19 (.ld false 1 (.v 19)),
   yO 21 (.nt (.v 20)),
   yM 22 21,
   ⟨some 23,some (22,false),none,.objs [(.v 2)],.ld true 10 (.v 2)⟩,
   yG 24 22 false (.mv (.v 1)),
   ⟨some 25,some (22,false),none,.cal (yC 76) [(.v 23),(.v 24)],.call (yC 76) [(.v 23),(.v 24)]⟩,
   yG 26 22 false (.fa 1 (.v 5)),
   yG 27 22 false (.fa 0 (.v 26)),
   ⟨some 28,some (22,false),none,.objs [(.v 27)],.ld true 6 (.v 27)⟩,
   ⟨some 29,some (22,false),none,.cal (yC 49) [(.v 25),(.v 28)],.call (yC 49) [(.v 25),(.v 28)]⟩,
   yG 30 22 false (.bin .lss false (.v 29) (yI 0))] ++ mkL [22,30] ([
   yO 31 (.pk (.v 22) (yB true) (.v 30)),
   yM 18 31]))) <|
   .cond (.v 18) (.seq (.ops ([
    yO 4 (.mv (yI 2))])) <|
    .ret) (.nop)))) <|
 .seq (.ops ([
 yO 4 (.mv (yI 3))])) <|
 .ret
theorem il54_eq:cFn Try.prog pol 54 = some ⟨32,il54c,[(4,none)]⟩:=by kernel_rfl
noncomputable def il55c:C :=
 .seq (.ops ([
 yO 2 (.mv (.c yS))])) <|
 .seq (.seq (.ops ([
 yM 3 0,
 yO 4 (.raw (opOf Try.prog 55 1 1))])) <|
 .cond (.v 4) (.seq (.ops ([
  yO 2 (.mv (.c yS))])) <|
  .ret) (.nop)) <|
 .seq (.ops ([
 yO 5 (.bs false 1 yZ 0 []),
 yM 6 0,
 yO 7 (.app 1 8 (.v 5) (.v 6)),
 yM 2 7])) <|
 .ret
theorem il55_eq:cFn Try.prog pol 55 = some ⟨8,il55c,[(2,none)]⟩:=by kernel_rfl
theorem raw55_1_1 {e:FEnv} {h:Heap}:iStep Try.prog pol 55 e h (.raw (opOf Try.prog 55 1 1)) = vOf h (binE Try.prog false 31 (.tmp 3) (.const (.slice none 0 0)) (Src.get e (.v 3)) (Src.get e (.c (.sc (.slice none 0 0))))):=raw_eql (x:=(.tmp 3)) (y:=(.const (.slice none 0 0))) (s:=31) (by kernel_rfl)
noncomputable def il56c:C :=
 .seq (.ops ([
 yO 2 (.mv (.c yS))])) <|
 .seq (.seq (.ops ([
 yM 3 0,
 yO 4 (.raw (opOf Try.prog 56 1 1))])) <|
 .cond (.v 4) (.seq (.ops ([
  yO 2 (.mv (.c yS))])) <|
  .ret) (.nop)) <|
 .seq (.ops ([
 yO 5 (.bs false 1 (.sc (.bool false)) 0 []),
 yM 6 0,
 yO 7 (.app 1 1 (.v 5) (.v 6)),
 yM 2 7])) <|
 .ret
theorem il56_eq:cFn Try.prog pol 56 = some ⟨8,il56c,[(2,none)]⟩:=by kernel_rfl
theorem raw56_1_1 {e:FEnv} {h:Heap}:iStep Try.prog pol 56 e h (.raw (opOf Try.prog 56 1 1)) = vOf h (binE Try.prog false 27 (.tmp 3) (.const (.slice none 0 0)) (Src.get e (.v 3)) (Src.get e (.c (.sc (.slice none 0 0))))):=raw_eql (x:=(.tmp 3)) (y:=(.const (.slice none 0 0))) (s:=27) (by kernel_rfl)
noncomputable def il57c:C :=
 .seq (.ops ([
 yO 2 (.mv (.c yS))])) <|
 .seq (.seq (.ops ([
 yM 3 0,
 yO 4 (.raw (opOf Try.prog 57 1 1))])) <|
 .cond (.v 4) (.seq (.ops ([
  yO 2 (.mv (.c yS))])) <|
  .ret) (.nop)) <|
 .seq (.ops ([
 yO 5 (.bs false 4 (.agg [yZ,yZ,yZ,yZ]) 0 []),
 yM 6 0,
 yO 7 (.app 4 32 (.v 5) (.v 6)),
 yM 2 7])) <|
 .ret
theorem il57_eq:cFn Try.prog pol 57 = some ⟨8,il57c,[(2,none)]⟩:=by kernel_rfl
theorem raw57_1_1 {e:FEnv} {h:Heap}:iStep Try.prog pol 57 e h (.raw (opOf Try.prog 57 1 1)) = vOf h (binE Try.prog false 28 (.tmp 3) (.const (.slice none 0 0)) (Src.get e (.v 3)) (Src.get e (.c (.sc (.slice none 0 0))))):=raw_eql (x:=(.tmp 3)) (y:=(.const (.slice none 0 0))) (s:=28) (by kernel_rfl)
noncomputable def il58l0b:C :=
 .seq (.ops ([
 yO 37 (.bin .lss false (.v 36) (.v 35))])) <|
 .seq (.cond (.v 37) (.nop) (.exit 0)) <|
 .seq (.block 1 (.seq (.ops ([
  yM 38 36,
  yO 39 (.iaS 1 (.v 34) (.v 36)),
  yL 40 1 39,
  yM 4 38,
  yM 5 40])) <|
  .seq (.seq (.ops ([
  yM 41 5,
  yO 42 (.bin .lss false (.v 41) (yI 0)),
  yM 43 42,
  yG 44 43 false (.mv (.v 5)),
  yG 45 43 false (.bin .geq false (.v 44) (yI 48)),
  yO 46 (.pk (.v 43) (yB true) (.v 45)),
  yM 47 46,
  yG 48 47 false (.mv (.v 4))] ++ mkL [1,4,5,34,35,36,47,48] ([
  yG 49 47 false (.bin .gtr false (.v 48) (yI 0)),
  yG 50 47 false (.mv (.v 49)),
  yG 51 50 true (.mv (.v 5)),
  yG 52 50 true (.fa 2 (.v 1)),
  yG 53 50 true (.ld false 1 (.v 52)),
  yG 54 50 true (.mv (.v 4)),
  yG 55 50 true (.bin .sub false (.v 54) (yI 1)),
  yG 56 50 true (.iaS 1 (.v 53) (.v 55)),
  yG 57 50 true (.ld false 1 (.v 56)),
  yG 58 50 true (.bin .leq false (.v 51) (.v 57)),
  yG 59 47 false (.pk (.v 50) (.v 58) (yB false)),
  yO 60 (.pk (.v 47) (yB true) (.v 59))]))) <|
  .cond (.v 60) (.seq (.ops ([
   yO 2 (.mv (yI 290))])) <|
   .ret) (.nop)) <|
  .seq (.seq (.ops ([
  yF 61 3 1] ++ mkL [1,4,34,35,36,61] ([
  yL 62 1 61,
  yM 63 4,
  yO 64 (.iaS 1 (.v 62) (.v 63)),
  yL 65 1 64,
  yO 66 (.bin .lss false (.v 65) (yI 1)),
  yM 67 66,
  yG 68 67 false (.fa 3 (.v 1)),
  yG 69 67 false (.ld false 1 (.v 68)),
  yG 70 67 false (.mv (.v 4)),
  yG 71 67 false (.iaS 1 (.v 69) (.v 70)),
  yG 72 67 false (.ld false 1 (.v 71)),
  yG 73 67 false (.bin .gtr false (.v 72) (yI 1000)),
  yO 74 (.pk (.v 67) (yB true) (.v 73))]))) <|
  .cond (.v 74) (.seq (.ops ([
   yO 2 (.mv (yI 290))])) <|
   .ret) (.nop)) <| mkC [1,4,34,35,36] <|
  .seq (.ops ([
  yF 75 4 1,
  yL 76 1 75,
  yM 77 4,
  yO 78 (.iaS 8 (.v 76) (.v 77)),
  yD 79 8 78,
  yO 6 (.nw 8 (.agg [(.sc (.bool false)),yZ,yZ,yZ,yZ,yZ,yZ,yZ])),
  yN (.st 8 (.v 6) (.v 79))])) <|
  .seq (.ops ([
  yF 80 0 6,
  yL 81 1 80,
  yM 82 81,
  yG 83 82 true (.fa 1 (.v 6)),
  yG 84 82 true (.ld true 7 (.v 83)),
  yG 85 82 true (.call (yC 78) [(.v 84)]),
  yG 86 82 true (.bin .neq false (.v 85) (yI 0))] ++ mkL [1,6,34,35,36,82,86] ([
  yO 87 (.pk (.v 82) (.v 86) (yB false)),
  yM 88 87,
  yG 89 88 false (.fa 0 (.v 6)),
  yG 90 88 false (.ld false 1 (.v 89)),
  yG 91 88 false (.nt (.v 90)),
  yG 92 88 false (.mv (.v 91)),
  yG 93 92 true (.ld true 8 (.v 6)),
  yG 94 92 true (.bd [(.sc (.bool false)),yZ,yZ,yZ,yZ,yZ,yZ,yZ] []),
  yG 95 92 true (.raw (opOf Try.prog 58 14 15)),
  yG 96 88 false (.pk (.v 92) (.v 95) (yB false)),
  yO 97 (.pk (.v 88) (yB true) (.v 96))]))) <|
  .cond (.v 97) (.seq (.ops ([
   yO 2 (.mv (yI 290))])) <|
   .ret) (.nop))) <|
 .ops ([
 yO 98 (.bin .add false (.v 36) (yI 1)),
 yM 36 98])
noncomputable def il58l0:C:=il58l0b
theorem il58l0_go {P pol K I n f R e h}:wc P pol K I n f il58l0 R e h = wc P pol K I n f il58l0b R e h:=(fun x=>x) rfl
noncomputable def il58c:C :=
 .seq (.ops ([
 yO 1 (.bx false (.v 0)),
 yO 2 (.mv (yI 0))])) <|
 .seq (.ops ([
 yF 7 2 1,
 yL 8 1 7,
 yO 9 (.lenS (.v 8)),
 yM 3 9])) <|
 .seq (.seq (.ops ([
 yM 10 3,
 yO 11 (.bin .gtr false (.v 10) (yI 24)),
 yM 12 11,
 yG 13 12 false (.fa 3 (.v 1)),
 yG 14 12 false (.ld false 1 (.v 13)),
 yG 15 12 false (.lenS (.v 14)),
 yG 16 12 false (.mv (.v 3)),
 yG 17 12 false (.bin .neq false (.v 15) (.v 16))] ++ mkL [1,3,12,17] ([
 yO 18 (.pk (.v 12) (yB true) (.v 17)),
 yM 19 18,
 yG 20 19 false (.fa 4 (.v 1)),
 yG 21 19 false (.ld false 1 (.v 20)),
 yG 22 19 false (.lenS (.v 21)),
 yG 23 19 false (.mv (.v 3)),
 yG 24 19 false (.bin .neq false (.v 22) (.v 23)),
 yO 25 (.pk (.v 19) (yB true) (.v 24))]))) <|
 .cond (.v 25) (.seq (.ops ([
  yO 2 (.mv (yI 290))])) <|
  .ret) (.nop)) <|
 .seq (.seq (.ops ([
 yF 26 0 1,
 yD 27 2 26,
 yF 28 0 1,
 yD 29 2 28,
 yO 30 (.bd [yZ,yZ,yZ,yZ,yZ,yZ] [(0,2,(.v 27)),(3,2,(.v 29))])] ++ mkL [1,30] ([
 yO 31 (.call (yC 77) [(.v 30)]),
 yO 32 (.bin .neq false (.v 31) (yI 0))]))) <|
 .cond (.v 32) (.seq (.ops ([
  yO 2 (.mv (yI 290))])) <|
  .ret) (.nop)) <|
 .seq (.seq (.ops ([
 yF 33 2 1,
 yL 34 1 33,
 yO 35 (.lenS (.v 34)),
 yO 36 (.mv (yI 0))])) <|
 .block 0 (.loop (some [1,34,35,36]) il58l0)) <|
 .seq (.ops ([
 yO 2 (.mv (yI 0))])) <|
 .ret
theorem il58_eq:cFn Try.prog pol 58 = some ⟨99,il58c,[(2,none)]⟩:=by kernel_rfl
theorem raw58_14_15 {e:FEnv} {h:Heap}:iStep Try.prog pol 58 e h (.raw (opOf Try.prog 58 14 15)) = vOf h (binE Try.prog true 59 (.tmp 93) (.tmp 94) (Src.get e (.v 93)) (Src.get e (.v 94))):=raw_neq (x:=(.tmp 93)) (y:=(.tmp 94)) (s:=59) (by kernel_rfl)
noncomputable def il59c:C :=
 .seq (.ops ([
 yO 2 (.bx false (.v 0)),
 yO 4 (.nw 5 (.agg [yZ,yZ,yS,yS,yS]))])) <|
 .seq (.ops ([
 yO 5 (.mv (yC 79))])) <|
 .seq (.opsD [(1,5),(5,7),(1,9),(5,11),(9,11),(1,13)] ([
 yF 6 0 2,
 yP 7 6 (.ld true 2 (.v 6)),
 yF 8 2 2,
 yP 9 8 (.ld false 1 (.v 8)),
 yM 10 5,
 yQ 11 (yC 80) [(.v 9),(.v 10)],
 yF 12 3 2,
 yP 13 12 (.ld false 1 (.v 12)),
 yM 14 5,
 yQ 15 (yC 80) [(.v 13),(.v 14)],
 yF 16 4 2] ++ mkL [1,4,7,11,15,16] ([
 yP 17 16 (.ld false 1 (.v 16)),
 yM 18 1,
 yQ 19 (yC 81) [(.v 17),(.v 18)],
 yO 20 (.bd [yZ,yZ,yS,yS,yS] [(0,2,(.v 7)),(2,1,(.v 11)),(3,1,(.v 15)),(4,1,(.v 19))]),
 yT 4 (.st 5 (.v 4) (.v 20))]))) <|
 .ret
theorem il59_eq:cFn Try.prog pol 59 = some ⟨21,il59c,[(4,some (true,5))]⟩:=by kernel_rfl
noncomputable def il60c:C :=
 .ops ([
 yM 3 0,
 yL 4 1 1,
 yO 5 (.bd [(.sc (.bool false)),yZ,yZ,yZ,yZ,yZ,yZ,yZ] []),
 yO 6 (.iaS 8 (.v 3) (.v 4)),
 yN (.st 8 (.v 6) (.v 5))])
theorem il60_eq:cFn Try.prog pol 60 = some ⟨7,il60c,[]⟩:=by kernel_rfl
noncomputable def il61l0b:C :=
 .seq (.ops ([
 yO 20 (.bin .lss false (.v 19) (yI 4))])) <|
 .seq (.cond (.v 20) (.nop) (.exit 2)) <|
 .seq (.block 3 (.seq (.ops ([
  yO 21 (.ixA false 1 4 1 (.v 18) (.v 19)),
  yM 6 21])) <|
  .seq (.ops ([
  yM 22 6,
  yM 23 4,
  yO 24 (.call (.v 22) [(.v 23)]),
  yO 25 (.nt (.v 24))])) <|
  .cond (.v 25) (.seq (.ops ([
   yO 2 (.mv (yB false))])) <|
   .ret) (.nop))) <|
 .ops ([
 yO 26 (.bin .add false (.v 19) (yI 1)),
 yM 19 26])
noncomputable def il61l0:C:=il61l0b
theorem il61l0_go {P pol K I n f R e h}:wc P pol K I n f il61l0 R e h = wc P pol K I n f il61l0b R e h:=(fun x=>x) rfl
noncomputable def il61l1b:C :=
 .seq (.ops ([
 yO 16 (.bin .lss false (.v 15) (.v 14))])) <|
 .seq (.cond (.v 16) (.nop) (.exit 0)) <|
 .seq (.block 1 (.seq (.ops ([
  yM 17 15,
  yM 4 17])) <|
  .seq (.ops ([
  yD 18 4 3,
  yO 19 (.mv (yI 0))])) <|
  .block 2 (.loop (some [3,4,14,15,18,19]) il61l0))) <|
 .ops ([
 yO 27 (.bin .add false (.v 15) (yI 1)),
 yM 15 27])
noncomputable def il61l1:C:=il61l1b
theorem il61l1_go {P pol K I n f R e h}:wc P pol K I n f il61l1 R e h = wc P pol K I n f il61l1b R e h:=(fun x=>x) rfl
noncomputable def il61c:C :=
 .seq (.ops ([
 yO 1 (.bx false (.v 0)),
 yO 2 (.mv (yB false))])) <|
 .seq (.ops ([
 yO 7 (.fn 82 [] [(.v 1)]),
 yO 8 (.fn 84 [] [(.v 1)]),
 yO 9 (.fn 85 [] [(.v 1)]),
 yO 10 (.fn 86 [] [(.v 1)]),
 yO 11 (.bd [(.sc .nilFunc),(.sc .nilFunc),(.sc .nilFunc),(.sc .nilFunc)] [(0,1,(.v 7)),(1,1,(.v 8)),(2,1,(.v 9)),(3,1,(.v 10))]),
 yO 3 (.nw 4 (.agg [(.sc .nilFunc),(.sc .nilFunc),(.sc .nilFunc),(.sc .nilFunc)])),
 yN (.st 4 (.v 3) (.v 11))])) <|
 .seq (.seq (.ops ([
 yF 12 2 1,
 yL 13 1 12,
 yO 14 (.lenS (.v 13)),
 yO 15 (.mv (yI 0))])) <|
 .block 0 (.loop (some [3,14,15]) il61l1)) <|
 .seq (.ops ([
 yO 2 (.mv (yB true))])) <|
 .ret
theorem il61_eq:cFn Try.prog pol 61 = some ⟨28,il61c,[(2,none)]⟩:=by kernel_rfl
noncomputable def il62c:C :=
 .seq (.ops ([
 yO 4 (.mv (yB false))])) <|
 .seq (.ops ([
 yM 5 0,
 yM 6 1,
 yO 7 (.call (yC 87) [(.v 5),(.v 6)]),
 yO 8 (.bin .geq false (.v 7) (yI 0)),
 yM 4 8])) <|
 .ret
theorem il62_eq:cFn Try.prog pol 62 = some ⟨9,il62c,[(4,none)]⟩:=by kernel_rfl
noncomputable def il63c:C :=
 .nop
theorem il63_eq:cFn Try.prog pol 63 = some ⟨2,il63c,[]⟩:=by kernel_rfl
noncomputable def il64c:C :=
 .seq (.ops ([
 yO 1 (.bx false (.v 0)),
 yO 2 (.mv (.c yS)),
 yO 3 (.mv (yI 0))])) <|
 .seq (.ops ([
 yD 7 5 1,
 yO 8 (.call (yC 52) [(.v 7)]),
 yM 6 8,
 yO 9 (.ex (.v 6) 0),
 yO 10 (.ex (.v 6) 1),
 yO 4 (.nw 10 (.agg [yZ,yZ,yS,yS,yS,yZ,yZ,yZ,yZ,yZ])),
 yN (.st 10 (.v 4) (.v 9)),
 yM 5 10])) <|
 .seq (.seq (.ops ([
 yM 11 5,
 yO 12 (.bin .neq false (.v 11) (yI 0))])) <|
 .cond (.v 12) (.seq (.ops ([
  yM 13 5] ++ mkL [13] ([
  yO 2 (.mv (.c yS)),
  yM 3 13]))) <|
  .ret) (.nop)) <|
 .seq (.ops ([
 yD 14 10 4] ++ mkL [4,14] ([
 yD 15 10 4,
 yO 16 (.fn 89 [(.v 15)] []),
 yO 17 (.call (yC 88) [(.v 14),(.v 16)]),
 yM 2 17,
 yO 3 (.mv (yI 0))]))) <|
 .ret
theorem il64_eq:cFn Try.prog pol 64 = some ⟨18,il64c,[(2,none),(3,none)]⟩:=by kernel_rfl
noncomputable def il65c:C :=
 .seq (.ops ([
 yO 3 (.bx false (.v 0)),
 yO 4 (.bx false (.v 1)),
 yO 5 (.bx false (.v 2)),
 yO 6 (.nw 5 (.agg [yZ,yZ,yS,yS,yS])),
 yO 7 (.mv (yI 0))])) <|
 .seq (.seq (.ops ([
 yD 10 5 3,
 yO 11 (.call (yC 58) [(.v 10)]),
 yM 8 11])) <|
 .seq (.ops ([
 yM 12 8,
 yO 13 (.bin .neq false (.v 12) (yI 0))])) <|
 .cond (.v 13) (.seq (.ops ([
  yO 14 (.bd [yZ,yZ,yS,yS,yS] []),
  yM 15 8,
  yN (.st 5 (.v 6) (.v 14)),
  yM 7 15])) <|
  .ret) (.nop)) <| mkC [3,4,5,6] <|
 .seq (.seq (.ops ([
 yL 16 1 4,
 yO 17 (.bin .lss false (.v 16) (yI 0)),
 yM 18 17,
 yG 19 18 false (.ld false 1 (.v 4)),
 yG 20 18 false (.fa 2 (.v 3)),
 yG 21 18 false (.ld false 1 (.v 20)),
 yG 22 18 false (.lenS (.v 21)),
 yG 23 18 false (.bin .geq false (.v 19) (.v 22)),
 yO 24 (.pk (.v 18) (yB true) (.v 23))])) <|
 .cond (.v 24) (.seq (.ops ([
  yO 25 (.bd [yZ,yZ,yS,yS,yS] []),
  yN (.st 5 (.v 6) (.v 25)),
  yO 7 (.mv (yI 2))])) <|
  .ret) (.nop)) <|
 .seq (.seq (.ops ([
 yD 26 7 5,
 yO 27 (.call (yC 78) [(.v 26)])] ++ mkL [3,4,5,6,27] ([
 yM 9 27]))) <|
 .seq (.ops ([
 yM 28 9,
 yO 29 (.bin .neq false (.v 28) (yI 0))])) <|
 .cond (.v 29) (.seq (.ops ([
  yO 30 (.bd [yZ,yZ,yS,yS,yS] []),
  yM 31 9,
  yN (.st 5 (.v 6) (.v 30)),
  yM 7 31])) <|
  .ret) (.nop)) <|
 .seq (.ops ([
 yD 32 5 3,
 yO 33 (.fn 90 [] [(.v 4),(.v 5)]),
 yO 34 (.call (yC 59) [(.v 32),(.v 33)]),
 yN (.st 5 (.v 6) (.v 34)),
 yO 7 (.mv (yI 0))])) <|
 .ret
theorem il65_eq:cFn Try.prog pol 65 = some ⟨35,il65c,[(6,some (true,5)),(7,none)]⟩:=by kernel_rfl
noncomputable def il66c:C :=
 .seq (.ops ([
 yO 1 (.bx false (.v 0)),
 yO 2 (.nw 5 (.agg [yZ,yZ,yS,yS,yS])),
 yO 3 (.mv (yI 0))])) <|
 .seq (.seq (.ops ([
 yD 5 5 1,
 yO 6 (.call (yC 58) [(.v 5)]),
 yM 4 6])) <|
 .seq (.ops ([
 yM 7 4,
 yO 8 (.bin .neq false (.v 7) (yI 0))])) <|
 .cond (.v 8) (.seq (.ops ([
  yO 9 (.bd [yZ,yZ,yS,yS,yS] []),
  yM 10 4,
  yN (.st 5 (.v 2) (.v 9)),
  yM 3 10])) <|
  .ret) (.nop)) <|
 .seq (.ops ([
 yD 11 5 1,
 yO 12 (.call (yC 59) [(.v 11),(yC 91)])] ++ mkL [2,12] ([
 yN (.st 5 (.v 2) (.v 12)),
 yO 3 (.mv (yI 0))]))) <|
 .ret
theorem il66_eq:cFn Try.prog pol 66 = some ⟨13,il66c,[(2,some (true,5)),(3,none)]⟩:=by kernel_rfl
noncomputable def il69r0a:C :=
 .ops ([
 yO 8 (.nw 5 (.agg [yZ,yZ,yZ,yZ,yZ])),
 yN (.st 5 (.v 8) (.v 24))])
noncomputable def il69r0b:C :=
 .block 1 (.seq (.opsD [(1,2)] ([
  yP 25 8 (.ld true 5 (.v 8)),
  yQ 26 (yC 94) [(.v 25)],
  yP 27 3 (.ld false 1 (.v 3)),
  yO 28 (.bin .eql false (.v 26) (.v 27))])) <|
  .cond (.v 28) (.ops ([
   yL 29 1 7,
   yF 30 4 8,
   yL 31 1 30,
   yO 32 (.bs false 1 yZ 1 [(0,(.v 31))]),
   yO 33 (.app 1 8 (.v 29) (.v 32)),
   yN (.st 1 (.v 7) (.v 33))])) (.nop))
theorem il69r0a_eq:cCode Try.prog pol 69 35 0 (rfOf Try.prog 69 0).1 = il69r0a:=by kernel_rfl
theorem il69r0b_eq:cCode Try.prog pol 69 35 0 (rfOf Try.prog 69 0).2 = il69r0b:=by kernel_rfl
noncomputable def il69c:C :=
 .seq (.ops ([
 yO 2 (.bx false (.v 0)),
 yO 3 (.bx false (.v 1)),
 yO 4 (.mv (.c yS)),
 yO 5 (.mv (yI 0))])) <|
 .seq (.seq (.ops ([
 yD 9 3 2,
 yO 10 (.call (yC 32) [(.v 9)]),
 yM 6 10])) <|
 .seq (.ops ([
 yM 11 6,
 yO 12 (.bin .neq false (.v 11) (yI 0))])) <|
 .cond (.v 12) (.seq (.ops ([
  yM 13 6,
  yO 4 (.mv (.c yS)),
  yM 5 13])) <|
  .ret) (.nop)) <|
 .seq (.seq (.ops ([
 yL 14 1 3,
 yO 15 (.bin .lss false (.v 14) (yI 0))] ++ mkL [2,3,4,5,15] ([
 yM 16 15,
 yG 17 16 false (.ld false 1 (.v 3)),
 yG 18 16 false (.fa 0 (.v 2)),
 yG 19 16 false (.ld false 1 (.v 18)),
 yG 20 16 false (.bin .geq false (.v 17) (.v 19)),
 yO 21 (.pk (.v 16) (yB true) (.v 20))]))) <|
 .cond (.v 21) (.seq (.ops ([
  yO 4 (.mv (.c yS)),
  yO 5 (.mv (yI 2))])) <|
  .ret) (.nop)) <|
 .seq (.ops ([
 yO 7 (.nwG 1)])) <|
 .seq (.seq (.ops ([
 yD 22 3 2,
 yO 23 (.call (yC 93) [(.v 22)])])) <|
 .block 0 (.rangeF 35 (some [3,7]) (.v 23) [24] (rfOf Try.prog 69 0).1 (rfOf Try.prog 69 0).2)) <|
 .seq (.ops ([
 yL 34 1 7,
 yM 4 34,
 yO 5 (.mv (yI 0))])) <|
 .ret
theorem il69_eq:cFn Try.prog pol 69 = some ⟨35,il69c,[(4,none),(5,none)]⟩:=by kernel_rfl
noncomputable def il70c:C :=
 .seq (.ops ([
 yO 2 (.bx false (.v 0)),
 yO 4 (.mv (yI 0)),
 yO 5 (.mv (yI 0))])) <|
 .seq (.ops ([
 yD 6 3 2,
 yM 7 1,
 yO 8 (.call (yC 95) [(.v 6),(.v 7),(yC 96)]),
 yO 9 (.ex (.v 8) 0),
 yO 10 (.ex (.v 8) 1),
 yM 4 9,
 yM 5 10])) <|
 .ret
theorem il70_eq:cFn Try.prog pol 70 = some ⟨11,il70c,[(4,none),(5,none)]⟩:=by kernel_rfl
noncomputable def il71c:C :=
 .seq (.ops ([
 yO 1 (.bx false (.v 0)),
 yO 2 (.mv (.c (.sc .nilFunc)))])) <|
 .seq (.ops ([
 yO 3 (.fn 97 [] [(.v 1)]),
 yM 2 3])) <|
 .ret
theorem il71_eq:cFn Try.prog pol 71 = some ⟨4,il71c,[(2,none)]⟩:=by kernel_rfl
noncomputable def il72c:C :=
 .opsD [] ([
 yP 7 3 (.ld false 1 (.v 3)),
 yM 8 0,
 yP 9 3 (.ld false 1 (.v 3)),
 yM 10 0,
 yO 11 (.iaS 1 (.v 9) (.v 10)),
 yP 12 11 (.ld false 1 (.v 11)),
 yP 13 3 (.ld false 1 (.v 3)),
 yM 14 1,
 yO 15 (.iaS 1 (.v 13) (.v 14)),
 yP 16 15 (.ld false 1 (.v 15)),
 yM 17 2,
 yO 18 (.bin .add false (.v 16) (.v 17)),
 yO 19 (.mnx false (.v 12) (.v 18)),
 yO 20 (.iaS 1 (.v 7) (.v 8))] ++ mkL [19,20] ([
 yT 20 (.st 1 (.v 20) (.v 19))]))
theorem il72_eq:cFn Try.prog pol 72 = some ⟨21,il72c,[]⟩:=by kernel_rfl
noncomputable def il73c:C :=
 .seq (.ops ([
 yO 1 (.bx false (.v 0)),
 yO 2 (.nw 6 (.agg [yZ,yZ,yZ,yZ,yZ,yZ]))])) <|
 .seq (.ops ([
 yF 3 0 1,
 yF 4 0 3,
 yL 5 1 4,
 yF 6 0 1,
 yF 7 1 6,
 yL 8 1 7,
 yF 9 2 1,
 yL 10 1 9,
 yF 11 3 1,
 yF 12 0 11,
 yL 13 1 12,
 yF 14 3 1] ++ mkL [1,2,5,8,10,13,14] ([
 yF 15 1 14,
 yL 16 1 15,
 yF 17 5 1,
 yL 18 1 17,
 yO 19 (.bd [yZ,yZ,yZ,yZ,yZ,yZ] [(0,1,(.v 5)),(1,1,(.v 8)),(2,1,(.v 10)),(3,1,(.v 13)),(4,1,(.v 16)),(5,1,(.v 18))]),
 yN (.st 6 (.v 2) (.v 19))]))) <|
 .ret
theorem il73_eq:cFn Try.prog pol 73 = some ⟨20,il73c,[(2,some (true,6))]⟩:=by kernel_rfl
noncomputable def il74c:C :=
 .seq (.ops ([
 yO 4 (.mv (yI 0))])) <|
 .seq (.ops ([
 yM 7 0,
 yO 8 (.call (yC 98) [(.v 7)]),
 yM 5 8])) <|
 .seq (.ops ([
 yM 9 1,
 yO 10 (.call (yC 98) [(.v 9)]),
 yM 6 10])) <|
 .seq (.seq (.ops ([
 yM 11 5])) <|
 .cond (.v 11) (.seq (.seq (.ops ([
  yM 12 6])) <|
  .cond (.v 12) (.seq (.ops ([
   yO 4 (.mv (yI 0))])) <|
   .ret) (.nop)) <|
  .seq (.ops ([
  yO 4 (.mv (yI (-1)))])) <|
  .ret) (.nop)) <|
 .seq (.seq (.ops ([
 yM 13 6])) <|
 .cond (.v 13) (.seq (.ops ([
  yO 4 (.mv (yI 1))])) <|
  .ret) (.nop)) <|
 .seq (.seq (.ops ([
 yM 14 0] ++ mkL [0,1,14] ([
 yM 15 1,
 yO 16 (.bin .lss false (.v 14) (.v 15))]))) <|
 .cond (.v 16) (.seq (.ops ([
  yO 4 (.mv (yI (-1)))])) <|
  .ret) (.nop)) <|
 .seq (.seq (.ops ([
 yM 17 0,
 yM 18 1,
 yO 19 (.bin .gtr false (.v 17) (.v 18))])) <|
 .cond (.v 19) (.seq (.ops ([
  yO 4 (.mv (yI 1))])) <|
  .ret) (.nop)) <|
 .seq (.ops ([
 yO 4 (.mv (yI 0))])) <|
 .ret
theorem il74_eq:cFn Try.prog pol 74 = some ⟨20,il74c,[(4,none)]⟩:=by kernel_rfl
noncomputable def il75c:C :=
 .seq (.ops ([
 yO 1 (.bx false (.v 0)),
 yO 2 (.mv (.c (.sc .nilFunc)))])) <|
 .seq (.ops ([
 yO 3 (.fn 99 [] [(.v 1)]),
 yM 2 3])) <|
 .ret
theorem il75_eq:cFn Try.prog pol 75 = some ⟨4,il75c,[(2,none)]⟩:=by kernel_rfl
noncomputable def il76c:C :=
 .seq (.ops ([
 yO 2 (.bx false (.v 0)),
 yO 4 (.nw 6 (.agg [yZ,yZ,yZ,yZ,yZ,yZ]))])) <|
 .seq (.opsD [] ([
 yF 5 5 2,
 yF 6 0 5,
 yP 7 6 (.ld true 2 (.v 6)),
 yF 8 5 2,
 yF 9 2 8,
 yP 10 9 (.ld false 1 (.v 9)),
 yF 11 0 2,
 yF 12 0 11,
 yP 13 12 (.ld true 2 (.v 12)),
 yF 14 0 2,
 yF 15 2 14,
 yP 16 15 (.ld false 1 (.v 15))] ++ mkL [1,4,7,10,13,16] ([
 yM 17 1,
 yO 18 (.iaS 1 (.v 16) (.v 17)),
 yP 19 18 (.ld false 1 (.v 18)),
 yO 20 (.bd [yZ,yZ,yZ,yZ,yZ,yZ] [(0,2,(.v 7)),(2,1,(.v 10)),(3,2,(.v 13)),(5,1,(.v 19))]),
 yT 4 (.st 6 (.v 4) (.v 20))]))) <|
 .ret
theorem il76_eq:cFn Try.prog pol 76 = some ⟨21,il76c,[(4,some (true,6))]⟩:=by kernel_rfl
noncomputable def il77c:C :=
 .seq (.ops ([
 yO 1 (.bx false (.v 0)),
 yO 2 (.mv (yI 0))])) <|
 .seq (.seq (.ops ([
 yF 3 0 1,
 yD 4 2 3,
 yO 5 (.call (yC 101) [(.v 4)]),
 yO 6 (.nt (.v 5)),
 yM 7 6,
 yG 8 7 false (.fa 3 (.v 1)),
 yG 9 7 false (.ld true 2 (.v 8)),
 yG 10 7 false (.call (yC 101) [(.v 9)]),
 yG 11 7 false (.nt (.v 10)),
 yO 12 (.pk (.v 7) (yB true) (.v 11)),
 yM 13 12,
 yG 14 13 false (.fa 2 (.v 1))] ++ mkL [1,13,14] ([
 yG 15 13 false (.ld false 1 (.v 14)),
 yG 16 13 false (.call (yC 102) [(.v 15),(yI 0),(yI 1048576)]),
 yG 17 13 false (.nt (.v 16)),
 yO 18 (.pk (.v 13) (yB true) (.v 17)),
 yM 19 18,
 yG 20 19 false (.fa 5 (.v 1)),
 yG 21 19 false (.ld false 1 (.v 20)),
 yG 22 19 false (.call (yC 103) [(.v 21)]),
 yG 23 19 false (.nt (.v 22)),
 yO 24 (.pk (.v 19) (yB true) (.v 23))]))) <|
 .cond (.v 24) (.seq (.ops ([
  yO 2 (.mv (yI 280))])) <|
  .ret) (.nop)) <|
 .seq (.ops ([
 yO 2 (.mv (yI 0))])) <|
 .ret
theorem il77_eq:cFn Try.prog pol 77 = some ⟨25,il77c,[(2,none)]⟩:=by kernel_rfl
noncomputable def il78c:C :=
 .seq (.ops ([
 yO 1 (.bx false (.v 0)),
 yO 2 (.mv (yI 0))])) <|
 .seq (.seq (.ops ([
 yF 3 6 1,
 yL 4 1 3,
 yO 5 (.call (yC 102) [(.v 4),(yI 0),(yI 20)]),
 yO 6 (.nt (.v 5))])) <|
 .cond (.v 6) (.seq (.ops ([
  yO 2 (.mv (yI 280))])) <|
  .ret) (.nop)) <|
 .seq (.ops ([
 yF 7 0 1,
 yD 8 6 7,
 yO 9 (.call (yC 77) [(.v 8)]),
 yM 2 9])) <|
 .ret
theorem il78_eq:cFn Try.prog pol 78 = some ⟨10,il78c,[(2,none)]⟩:=by kernel_rfl
noncomputable def il79c:C :=
 .nop
theorem il79_eq:cFn Try.prog pol 79 = some ⟨2,il79c,[]⟩:=by kernel_rfl
noncomputable def il80c:C :=
 .seq (.ops ([
 yO 4 (.mv (.c yS))])) <|
 .seq (.ops ([
 yM 6 0,
 yO 7 (.lenS (.v 6)),
 yO 8 (.raw (opOf Try.prog 80 1 2)),
 yM 5 8])) <|
 .seq (.ops ([
 yM 9 5,
 yM 10 0,
 yO 11 (.raw (opOf Try.prog 80 2 2))])) <|
 .seq (.ops ([
 yM 12 1,
 yM 13 5,
 yO 14 (.call (.v 12) [(.v 13)])])) <|
 .seq (.ops ([
 yM 15 5,
 yM 4 15])) <|
 .ret
theorem il80_eq:cFn Try.prog pol 80 = some ⟨16,il80c,[(4,none)]⟩:=by kernel_rfl
theorem raw80_1_2 {e:FEnv} {h:Heap}:iStep Try.prog pol 80 e h (.raw (opOf Try.prog 80 1 2)) = mkSl 1 8 (.sc (.int .i64 0)) h (asNat (Src.get e (.v 7))) (asNat (Src.get e (.v 7))):=raw_makeSlice (t:=31) (l:=(.tmp 7)) (c:=(.tmp 7)) (elem:=3) (by kernel_rfl) (by kernel_rfl) (by kernel_rfl) (by kernel_rfl) (by kernel_rfl) (by kernel_rfl) (by kernel_rfl)
theorem raw80_2_2 {e:FEnv} {h:Heap}:iStep Try.prog pol 80 e h (.raw (opOf Try.prog 80 2 2)) = cpA 1 (Src.get e (.v 9)) h (elemsOf h 1 (Src.get e (.v 10))):=raw_copy (t:=31) (ts:=[31]) (x:=(.tmp 9)) (y:=(.tmp 10)) (elem:=3) (by kernel_rfl) (by kernel_rfl) (by kernel_rfl) (by kernel_rfl)
noncomputable def il81c:C :=
 .seq (.ops ([
 yO 4 (.mv (.c yS))])) <|
 .seq (.ops ([
 yM 6 0,
 yO 7 (.lenS (.v 6)),
 yO 8 (.raw (opOf Try.prog 81 1 2)),
 yM 5 8])) <|
 .seq (.ops ([
 yM 9 5,
 yM 10 0,
 yO 11 (.raw (opOf Try.prog 81 2 2))])) <|
 .seq (.ops ([
 yM 12 1,
 yM 13 5,
 yO 14 (.call (.v 12) [(.v 13)])])) <|
 .seq (.ops ([
 yM 15 5,
 yM 4 15])) <|
 .ret
theorem il81_eq:cFn Try.prog pol 81 = some ⟨16,il81c,[(4,none)]⟩:=by kernel_rfl
theorem raw81_1_2 {e:FEnv} {h:Heap}:iStep Try.prog pol 81 e h (.raw (opOf Try.prog 81 1 2)) = mkSl 8 64 (.agg [(.sc (.bool false)),(.sc (.int .i64 0)),(.sc (.int .i64 0)),(.sc (.int .i64 0)),(.sc (.int .i64 0)),(.sc (.int .i64 0)),(.sc (.int .i64 0)),(.sc (.int .i64 0))]) h (asNat (Src.get e (.v 7))) (asNat (Src.get e (.v 7))):=raw_makeSlice (t:=51) (l:=(.tmp 7)) (c:=(.tmp 7)) (elem:=59) (by kernel_rfl) (by kernel_rfl) (by kernel_rfl) (by kernel_rfl) (by kernel_rfl) (by kernel_rfl) (by kernel_rfl)
theorem raw81_2_2 {e:FEnv} {h:Heap}:iStep Try.prog pol 81 e h (.raw (opOf Try.prog 81 2 2)) = cpA 8 (Src.get e (.v 9)) h (elemsOf h 8 (Src.get e (.v 10))):=raw_copy (t:=51) (ts:=[51]) (x:=(.tmp 9)) (y:=(.tmp 10)) (elem:=59) (by kernel_rfl) (by kernel_rfl) (by kernel_rfl) (by kernel_rfl)
noncomputable def il82c:C :=
 .seq (.ops ([
 yO 3 (.mv (yB false))])) <|
 .seq (.ops ([
 yF 5 2 1,
 yL 6 1 5,
 yM 7 0,
 yO 8 (.iaS 4 (.v 6) (.v 7)),
 yD 9 4 8,
 yO 4 (.nw 4 (.agg [yZ,yZ,yZ,yZ])),
 yN (.st 4 (.v 4) (.v 9))])) <|
 .seq (.ops ([
 yD 10 3 1,
 yF 11 0 4,
 yL 12 1 11,
 yO 13 (.call (yC 83) [(.v 10),(.v 12)]),
 yM 14 13,
 yG 15 14 true (.ld true 3 (.v 1))] ++ mkL [4,14,15] ([
 yG 16 14 true (.fa 1 (.v 4)),
 yG 17 14 true (.ld false 1 (.v 16)),
 yG 18 14 true (.call (yC 83) [(.v 15),(.v 17)]),
 yO 19 (.pk (.v 14) (.v 18) (yB false)),
 yM 20 19,
 yG 21 20 true (.fa 0 (.v 4)),
 yG 22 20 true (.ld false 1 (.v 21)),
 yG 23 20 true (.fa 1 (.v 4)),
 yG 24 20 true (.ld false 1 (.v 23)),
 yG 25 20 true (.bin .neq false (.v 22) (.v 24)),
 yO 26 (.pk (.v 20) (.v 25) (yB false)),
 yM 3 26]))) <|
 .ret
theorem il82_eq:cFn Try.prog pol 82 = some ⟨27,il82c,[(3,none)]⟩:=by kernel_rfl
noncomputable def il83c:C :=
 .seq (.ops ([
 yO 2 (.bx false (.v 0)),
 yO 4 (.mv (yB false))])) <|
 .seq (.ops ([
 yM 5 1,
 yO 6 (.bin .geq false (.v 5) (yI 0)),
 yM 7 6,
 yG 8 7 true (.mv (.v 1)),
 yG 9 7 true (.fa 0 (.v 2)),
 yG 10 7 true (.ld false 1 (.v 9)),
 yG 11 7 true (.bin .lss false (.v 8) (.v 10)),
 yO 12 (.pk (.v 7) (.v 11) (yB false)),
 yM 4 12])) <|
 .ret
theorem il83_eq:cFn Try.prog pol 83 = some ⟨13,il83c,[(4,none)]⟩:=by kernel_rfl
noncomputable def il84c:C :=
 .seq (.ops ([
 yO 3 (.mv (yB false))])) <|
 .seq (.ops ([
 yF 5 2 1,
 yL 6 1 5,
 yM 7 0,
 yO 8 (.iaS 4 (.v 6) (.v 7)),
 yD 9 4 8,
 yO 4 (.nw 4 (.agg [yZ,yZ,yZ,yZ])),
 yN (.st 4 (.v 4) (.v 9))])) <|
 .seq (.ops ([
 yF 10 1 1,
 yL 11 1 10,
 yF 12 0 4,
 yL 13 1 12,
 yO 14 (.iaS 1 (.v 11) (.v 13)),
 yL 15 1 14] ++ mkL [1,4,15] ([
 yO 16 (.nt (.v 15)),
 yM 17 16,
 yG 18 17 false (.fa 1 (.v 1)),
 yG 19 17 false (.ld false 1 (.v 18)),
 yG 20 17 false (.fa 1 (.v 4)),
 yG 21 17 false (.ld false 1 (.v 20)),
 yG 22 17 false (.iaS 1 (.v 19) (.v 21)),
 yG 23 17 false (.ld false 1 (.v 22)),
 yG 24 17 false (.nt (.v 23)),
 yO 25 (.pk (.v 17) (yB true) (.v 24)),
 yM 3 25]))) <|
 .ret
theorem il84_eq:cFn Try.prog pol 84 = some ⟨26,il84c,[(3,none)]⟩:=by kernel_rfl
noncomputable def il85l0b:C :=
 .seq (.ops ([
 yO 18 (.bin .lss false (.v 17) (.v 16))])) <|
 .seq (.cond (.v 18) (.nop) (.exit 0)) <|
 .seq (.block 1 (.seq (.ops ([
  yO 19 (.iaS 4 (.v 15) (.v 17)),
  yD 20 4 19,
  yO 6 (.nw 4 (.agg [yZ,yZ,yZ,yZ])),
  yN (.st 4 (.v 6) (.v 20))])) <|
  .seq (.ops ([
  yF 21 0 4,
  yL 22 1 21,
  yF 23 0 6,
  yL 24 1 23,
  yO 25 (.bin .eql false (.v 22) (.v 24)),
  yM 26 25,
  yG 27 26 true (.fa 1 (.v 4)),
  yG 28 26 true (.ld false 1 (.v 27)),
  yG 29 26 true (.fa 1 (.v 6))] ++ mkL [4,6,15,16,17,26,28,29] ([
  yG 30 26 true (.ld false 1 (.v 29)),
  yG 31 26 true (.bin .eql false (.v 28) (.v 30)),
  yO 32 (.pk (.v 26) (.v 31) (yB false)),
  yM 33 32,
  yG 34 33 false (.fa 0 (.v 4)),
  yG 35 33 false (.ld false 1 (.v 34)),
  yG 36 33 false (.fa 1 (.v 6)),
  yG 37 33 false (.ld false 1 (.v 36)),
  yG 38 33 false (.bin .eql false (.v 35) (.v 37)),
  yG 39 33 false (.mv (.v 38)),
  yG 40 39 true (.fa 1 (.v 4)),
  yG 41 39 true (.ld false 1 (.v 40)),
  yG 42 39 true (.fa 0 (.v 6)),
  yG 43 39 true (.ld false 1 (.v 42))] ++ mkL [4,15,16,17,33,39,41,43] ([
  yG 44 39 true (.bin .eql false (.v 41) (.v 43)),
  yG 45 33 false (.pk (.v 39) (.v 44) (yB false)),
  yO 46 (.pk (.v 33) (yB true) (.v 45))])))) <|
  .cond (.v 46) (.seq (.ops ([
   yO 3 (.mv (yB false))])) <|
   .ret) (.nop))) <|
 .ops ([
 yO 47 (.bin .add false (.v 17) (yI 1)),
 yM 17 47])
noncomputable def il85l0:C:=il85l0b
theorem il85l0_go {P pol K I n f R e h}:wc P pol K I n f il85l0 R e h = wc P pol K I n f il85l0b R e h:=(fun x=>x) rfl
noncomputable def il85c:C :=
 .seq (.ops ([
 yO 3 (.mv (yB false))])) <|
 .seq (.ops ([
 yF 7 2 1,
 yL 8 1 7,
 yM 9 0,
 yO 10 (.iaS 4 (.v 8) (.v 9)),
 yD 11 4 10,
 yO 4 (.nw 4 (.agg [yZ,yZ,yZ,yZ])),
 yN (.st 4 (.v 4) (.v 11))])) <|
 .seq (.seq (.ops ([
 yF 12 2 1,
 yL 13 1 12,
 yM 14 0,
 yO 15 (.sl 4 (.v 13) none (some (.v 14)) none),
 yO 16 (.lenS (.v 15)),
 yO 17 (.mv (yI 0))])) <| mkC [4,15,16,17] <|
 .block 0 (.loop (some [4,15,16,17]) il85l0)) <|
 .seq (.ops ([
 yO 3 (.mv (yB true))])) <|
 .ret
theorem il85_eq:cFn Try.prog pol 85 = some ⟨48,il85c,[(3,none)]⟩:=by kernel_rfl
noncomputable def il86c:C :=
 .seq (.ops ([
 yO 3 (.mv (yB false))])) <|
 .seq (.ops ([
 yF 5 2 1,
 yL 6 1 5,
 yM 7 0,
 yO 8 (.iaS 4 (.v 6) (.v 7)),
 yD 9 4 8,
 yO 4 (.nw 4 (.agg [yZ,yZ,yZ,yZ])),
 yN (.st 4 (.v 4) (.v 9))])) <|
 .seq (.ops ([
 yF 10 2 4,
 yL 11 1 10,
 yO 12 (.bin .geq false (.v 11) (yI 1)),
 yM 13 12,
 yG 14 13 true (.fa 2 (.v 4)),
 yG 15 13 true (.ld false 1 (.v 14))] ++ mkL [4,13,15] ([
 yG 16 13 true (.bin .leq false (.v 15) (yI 1000)),
 yO 17 (.pk (.v 13) (.v 16) (yB false)),
 yM 18 17,
 yG 19 18 true (.fa 3 (.v 4)),
 yG 20 18 true (.ld false 1 (.v 19)),
 yG 21 18 true (.bin .geq false (.v 20) (yI 0)),
 yO 22 (.pk (.v 18) (.v 21) (yB false)),
 yM 23 22,
 yG 24 23 true (.fa 3 (.v 4)),
 yG 25 23 true (.ld false 1 (.v 24)),
 yG 26 23 true (.bin .leq false (.v 25) (yI 10000)),
 yO 27 (.pk (.v 23) (.v 26) (yB false)),
 yM 3 27]))) <|
 .ret
theorem il86_eq:cFn Try.prog pol 86 = some ⟨28,il86c,[(3,none)]⟩:=by kernel_rfl
noncomputable def il87l0b:C :=
 .seq (.ops ([
 yO 9 (.bin .lss false (.v 8) (.v 7))])) <|
 .seq (.cond (.v 9) (.nop) (.exit 0)) <|
 .seq (.block 1 (.seq (.ops ([
  yM 10 8,
  yM 5 10])) <|
  .seq (.ops ([
  yM 11 1,
  yM 12 0,
  yM 13 5,
  yO 14 (.iaS 1 (.v 12) (.v 13)),
  yL 15 1 14,
  yO 16 (.bin .eql true (.v 11) (.v 15))])) <|
  .cond (.v 16) (.seq (.ops ([
   yM 17 5,
   yM 4 17])) <|
   .ret) (.nop))) <|
 .ops ([
 yO 18 (.bin .add false (.v 8) (yI 1)),
 yM 8 18])
noncomputable def il87l0:C:=il87l0b
theorem il87l0_go {P pol K I n f R e h}:wc P pol K I n f il87l0 R e h = wc P pol K I n f il87l0b R e h:=(fun x=>x) rfl
noncomputable def il87c:C :=
 .seq (.ops ([
 yO 4 (.mv (yI 0))])) <|
 .seq (.seq (.ops ([
 yM 6 0,
 yO 7 (.lenS (.v 6)),
 yO 8 (.mv (yI 0))])) <|
 .block 0 (.loop (some [0,1,7,8]) il87l0)) <|
 .seq (.ops ([
 yO 4 (.mv (yI (-1)))])) <|
 .ret
theorem il87_eq:cFn Try.prog pol 87 = some ⟨19,il87c,[(4,none)]⟩:=by kernel_rfl
noncomputable def il88l0b:C :=
 .seq (.ops ([
 yO 15 (.bin .lss false (.v 14) (.v 13))])) <|
 .seq (.cond (.v 15) (.nop) (.exit 0)) <|
 .seq (.block 1 (.seq (.ops ([
  yM 16 14,
  yM 6 16])) <|
  .ops ([
  yM 17 5,
  yM 18 6,
  yM 19 1,
  yM 20 6,
  yO 21 (.call (.v 19) [(.v 20)]),
  yO 22 (.iaS 8 (.v 17) (.v 18)),
  yN (.st 8 (.v 22) (.v 21))]))) <|
 .ops ([
 yO 23 (.bin .add false (.v 14) (yI 1)),
 yM 14 23])
noncomputable def il88l0:C:=il88l0b
theorem il88l0_go {P pol K I n f R e h}:wc P pol K I n f il88l0 R e h = wc P pol K I n f il88l0b R e h:=(fun x=>x) rfl
noncomputable def il88c:C :=
 .seq (.ops ([
 yO 2 (.bx false (.v 0)),
 yO 4 (.mv (.c yS))])) <|
 .seq (.ops ([
 yF 7 0 2,
 yF 8 2 7,
 yL 9 1 8,
 yO 10 (.lenS (.v 9)),
 yO 11 (.raw (opOf Try.prog 88 1 4)),
 yM 5 11])) <|
 .seq (.seq (.ops ([
 yM 12 5,
 yO 13 (.lenS (.v 12)),
 yO 14 (.mv (yI 0))])) <|
 .block 0 (.loop (some [1,5,13,14]) il88l0)) <|
 .seq (.ops ([
 yM 24 5,
 yM 4 24])) <|
 .ret
theorem il88_eq:cFn Try.prog pol 88 = some ⟨25,il88c,[(4,none)]⟩:=by kernel_rfl
theorem raw88_1_4 {e:FEnv} {h:Heap}:iStep Try.prog pol 88 e h (.raw (opOf Try.prog 88 1 4)) = mkSl 8 64 (.agg [(.sc (.bool false)),(.sc (.int .i64 0)),(.sc (.int .i64 0)),(.sc (.int .i64 0)),(.sc (.int .i64 0)),(.sc (.int .i64 0)),(.sc (.int .i64 0)),(.sc (.int .i64 0))]) h (asNat (Src.get e (.v 10))) (asNat (Src.get e (.v 10))):=raw_makeSlice (t:=51) (l:=(.tmp 10)) (c:=(.tmp 10)) (elem:=59) (by kernel_rfl) (by kernel_rfl) (by kernel_rfl) (by kernel_rfl) (by kernel_rfl) (by kernel_rfl) (by kernel_rfl)
noncomputable def il89c:C :=
 .seq (.ops ([
 yO 2 (.bx false (.v 0)),
 yO 4 (.nw 8 (.agg [(.sc (.bool false)),yZ,yZ,yZ,yZ,yZ,yZ,yZ]))])) <|
 .seq (.seq (.ops ([
 yD 5 10 2,
 yM 6 1,
 yO 7 (.call (yC 54) [(.v 5),(.v 6)]),
 yO 8 (.bin .neq false (.v 7) (yI 2))])) <|
 .cond (.v 8) (.seq (.ops ([
  yO 9 (.bd [(.sc (.bool false)),yZ,yZ,yZ,yZ,yZ,yZ,yZ] []),
  yN (.st 8 (.v 4) (.v 9))])) <|
  .ret) (.nop)) <|
 .seq (.opsD [(2,5)] ([
 yP 10 2 (.ld true 10 (.v 2)),
 yM 11 1,
 yQ 12 (yC 76) [(.v 10),(.v 11)],
 yF 13 5 2,
 yF 14 4 13,
 yP 15 14 (.ld false 1 (.v 14))] ++ mkL [4,12,15] ([
 yO 16 (.bd [yZ,yZ,yZ,yZ,yZ,yZ,yZ] [(0,6,(.v 12)),(6,1,(.v 15))]),
 yO 17 (.bd [(.sc (.bool false)),yZ,yZ,yZ,yZ,yZ,yZ,yZ] [(0,1,(yB true)),(1,7,(.v 16))]),
 yT 4 (.st 8 (.v 4) (.v 17))]))) <|
 .ret
theorem il89_eq:cFn Try.prog pol 89 = some ⟨18,il89c,[(4,some (true,8))]⟩:=by kernel_rfl
noncomputable def il90c:C :=
 .seq (.ops ([
 yM 6 0,
 yL 7 1 1,
 yO 8 (.iaS 8 (.v 6) (.v 7)),
 yF 9 1 8,
 yF 10 0 9,
 yD 11 6 10,
 yO 4 (.nw 6 (.agg [yZ,yZ,yZ,yZ,yZ,yZ])),
 yN (.st 6 (.v 4) (.v 11))])) <|
 .seq (.ops ([
 yF 12 3 4,
 yD 13 2 12,
 yF 14 0 2,
 yF 15 3 14,
 yD 16 2 15,
 yO 17 (.raw (opOf Try.prog 90 1 5))] ++ mkL [0,1,2,4,17] ([
 yM 18 17,
 yG 19 18 true (.fa 5 (.v 4)),
 yG 20 18 true (.ld false 1 (.v 19)),
 yG 21 18 true (.fa 0 (.v 2)),
 yG 22 18 true (.fa 5 (.v 21)),
 yG 23 18 true (.ld false 1 (.v 22)),
 yG 24 18 true (.bin .eql false (.v 20) (.v 23)),
 yO 25 (.pk (.v 18) (.v 24) (yB false)),
 yM 5 25]))) <|
 .seq (.ops ([
 yM 26 0,
 yL 27 1 1,
 yO 28 (.iaS 8 (.v 26) (.v 27)),
 yF 29 0 28,
 yL 30 1 29] ++ mkL [0,1,2,4,5,30] ([
 yO 31 (.nt (.v 30)),
 yM 32 31,
 yG 33 32 false (.mv (.v 5)),
 yO 34 (.pk (.v 32) (yB true) (.v 33)),
 yM 35 34,
 yG 36 35 false (.fa 0 (.v 2)),
 yG 37 35 false (.ld true 6 (.v 36)),
 yG 38 35 false (.ld true 6 (.v 4)),
 yG 39 35 false (.call (yC 49) [(.v 37),(.v 38)]),
 yG 40 35 false (.bin .leq false (.v 39) (yI 0)),
 yO 41 (.pk (.v 35) (yB true) (.v 40))]))) <|
 .cond (.v 41) (.ops ([
  yM 42 0,
  yL 43 1 1,
  yD 44 7 2] ++ mkL [42,43,44] ([
  yO 45 (.bd [(.sc (.bool false)),yZ,yZ,yZ,yZ,yZ,yZ,yZ] [(0,1,(yB true)),(1,7,(.v 44))]),
  yO 46 (.iaS 8 (.v 42) (.v 43)),
  yN (.st 8 (.v 46) (.v 45))]))) (.nop)
theorem il90_eq:cFn Try.prog pol 90 = some ⟨47,il90c,[]⟩:=by kernel_rfl
theorem raw90_1_5 {e:FEnv} {h:Heap}:iStep Try.prog pol 90 e h (.raw (opOf Try.prog 90 1 5)) = vOf h (binE Try.prog false 50 (.tmp 13) (.tmp 16) (Src.get e (.v 13)) (Src.get e (.v 16))):=raw_eql (x:=(.tmp 13)) (y:=(.tmp 16)) (s:=50) (by kernel_rfl)
noncomputable def il91l0b:C :=
 .seq (.ops ([
 yO 7 (.bin .lss false (.v 6) (.v 5))])) <|
 .seq (.cond (.v 7) (.nop) (.exit 0)) <|
 .seq (.block 1 (.seq (.ops ([
  yM 8 6,
  yO 9 (.iaS 8 (.v 4) (.v 6)),
  yD 10 8 9,
  yO 3 (.nw 8 (.agg [(.sc (.bool false)),yZ,yZ,yZ,yZ,yZ,yZ,yZ])),
  yM 2 8,
  yN (.st 8 (.v 3) (.v 10))])) <|
  .seq (.seq (.ops ([
  yF 11 0 3,
  yL 12 1 11,
  yO 13 (.nt (.v 12))])) <|
  .cond (.v 13) (.exit 1) (.nop)) <|
  .seq (.ops ([
  yF 14 1 3,
  yF 15 6 14,
  yL 16 1 15,
  yO 17 (.bin .add false (.v 16) (yI 1))] ++ mkL [0,2,3,4,5,6,17] ([
  yF 18 1 3,
  yF 19 6 18,
  yN (.st 1 (.v 19) (.v 17))]))) <|
  .seq (.seq (.ops ([
  yF 20 1 3,
  yF 21 6 20,
  yL 22 1 21,
  yO 23 (.bin .gtr false (.v 22) (yI 20))])) <|
  .cond (.v 23) (.ops ([
   yO 24 (.bd [(.sc (.bool false)),yZ,yZ,yZ,yZ,yZ,yZ,yZ] []),
   yN (.st 8 (.v 3) (.v 24))])) (.nop)) <|
  .ops ([
  yM 25 0,
  yM 26 2,
  yD 27 8 3,
  yO 28 (.iaS 8 (.v 25) (.v 26)),
  yN (.st 8 (.v 28) (.v 27))]))) <| mkC [0,4,5,6] <|
 .ops ([
 yO 29 (.bin .add false (.v 6) (yI 1)),
 yM 6 29])
noncomputable def il91l0:C:=il91l0b
theorem il91l0_go {P pol K I n f R e h}:wc P pol K I n f il91l0 R e h = wc P pol K I n f il91l0b R e h:=(fun x=>x) rfl
noncomputable def il91c:C :=
 .seq (.ops ([
 yM 4 0,
 yO 5 (.lenS (.v 4)),
 yO 6 (.mv (yI 0))])) <|
 .block 0 (.loop (some [0,4,5,6]) il91l0)
theorem il91_eq:cFn Try.prog pol 91 = some ⟨30,il91c,[]⟩:=by kernel_rfl
noncomputable def il93c:C :=
 .seq (.ops ([
 yO 1 (.bx false (.v 0)),
 yO 2 (.mv (.c (.sc .nilFunc)))])) <|
 .seq (.ops ([
 yO 3 (.fn 104 [] [(.v 1)]),
 yM 2 3])) <|
 .ret
theorem il93_eq:cFn Try.prog pol 93 = some ⟨4,il93c,[(2,none)]⟩:=by kernel_rfl
noncomputable def il94c:C :=
 .seq (.ops ([
 yO 1 (.bx false (.v 0)),
 yO 2 (.mv (yI 0))])) <|
 .seq (.seq (.ops ([
 yF 3 4 1,
 yL 4 1 3,
 yO 5 (.bin .rem false (.v 4) (yI 2)),
 yO 6 (.bin .eql false (.v 5) (yI 0))])) <|
 .cond (.v 6) (.seq (.ops ([
  yF 7 0 1,
  yF 8 0 7,
  yL 9 1 8,
  yM 2 9])) <|
  .ret) (.nop)) <|
 .seq (.ops ([
 yF 10 0 1,
 yF 11 1 10,
 yL 12 1 11,
 yM 2 12])) <|
 .ret
theorem il94_eq:cFn Try.prog pol 94 = some ⟨13,il94c,[(2,none)]⟩:=by kernel_rfl
noncomputable def il95c:C :=
 .seq (.ops ([
 yO 3 (.bx false (.v 0)),
 yO 6 (.mv (yI 0)),
 yO 7 (.mv (yI 0))])) <|
 .seq (.ops ([
 yO 8 (.mv (yI 0))])) <|
 .seq (.seq (.ops ([
 yD 10 3 3,
 yO 11 (.call (yC 32) [(.v 10)]),
 yM 9 11])) <|
 .seq (.ops ([
 yM 12 9,
 yO 13 (.bin .neq false (.v 12) (yI 0))])) <|
 .cond (.v 13) (.seq (.ops ([
  yM 14 8,
  yM 15 9,
  yM 6 14,
  yM 7 15])) <|
  .ret) (.nop)) <|
 .seq (.seq (.ops ([
 yM 16 1] ++ mkL [1,2,3,8,16] ([
 yO 17 (.bin .lss false (.v 16) (yI 0)),
 yM 18 17,
 yG 19 18 false (.mv (.v 1)),
 yG 20 18 false (.fa 2 (.v 3)),
 yG 21 18 false (.ld false 1 (.v 20)),
 yG 22 18 false (.lenS (.v 21)),
 yG 23 18 false (.bin .mul false (yI 2) (.v 22)),
 yG 24 18 false (.bin .geq false (.v 19) (.v 23)),
 yO 25 (.pk (.v 18) (yB true) (.v 24))]))) <|
 .cond (.v 25) (.seq (.ops ([
  yM 26 8,
  yM 6 26,
  yO 7 (.mv (yI 2))])) <|
  .ret) (.nop)) <|
 .seq (.ops ([
 yM 27 2,
 yF 28 2 3] ++ mkL [1,27,28] ([
 yL 29 1 28,
 yM 30 1,
 yO 31 (.bin .quo false (.v 30) (yI 2)),
 yO 32 (.iaS 4 (.v 29) (.v 31)),
 yD 33 4 32,
 yM 34 1,
 yO 35 (.bd [yZ,yZ,yZ,yZ,yZ] [(0,4,(.v 33)),(4,1,(.v 34))]),
 yO 36 (.call (.v 27) [(.v 35)]),
 yM 6 36,
 yO 7 (.mv (yI 0))]))) <|
 .ret
theorem il95_eq:cFn Try.prog pol 95 = some ⟨37,il95c,[(6,none),(7,none)]⟩:=by kernel_rfl
noncomputable def il96c:C :=
 .seq (.ops ([
 yO 1 (.bx false (.v 0)),
 yO 2 (.mv (yI 0))])) <|
 .seq (.seq (.ops ([
 yF 3 4 1,
 yL 4 1 3,
 yO 5 (.bin .rem false (.v 4) (yI 2)),
 yO 6 (.bin .eql false (.v 5) (yI 0))])) <|
 .cond (.v 6) (.seq (.ops ([
  yF 7 0 1,
  yF 8 1 7,
  yL 9 1 8,
  yM 2 9])) <|
  .ret) (.nop)) <|
 .seq (.ops ([
 yF 10 0 1,
 yF 11 0 10,
 yL 12 1 11,
 yM 2 12])) <|
 .ret
theorem il96_eq:cFn Try.prog pol 96 = some ⟨13,il96c,[(2,none)]⟩:=by kernel_rfl
noncomputable def il97l0b:C :=
 .seq (.ops ([
 yO 11 (.bin .lss false (.v 10) (.v 9))])) <|
 .seq (.cond (.v 11) (.nop) (.exit 0)) <|
 .seq (.block 1 (.seq (.ops ([
  yM 12 10,
  yO 13 (.iaS 4 (.v 8) (.v 10)),
  yD 14 4 13,
  yO 4 (.nw 4 (.agg [yZ,yZ,yZ,yZ])),
  yM 3 12,
  yN (.st 4 (.v 4) (.v 14))])) <|
  .seq (.seq (.ops ([
  yF 15 0 1,
  yF 16 4 15,
  yL 17 1 16,
  yM 18 3,
  yO 19 (.iaS 1 (.v 17) (.v 18)),
  yL 20 1 19,
  yM 21 20] ++ mkL [0,1,4,8,9,10,21] ([
  yG 22 21 false (.fa 0 (.v 1)),
  yG 23 21 false (.fa 0 (.v 22)),
  yG 24 21 false (.fa 1 (.v 23)),
  yG 25 21 false (.ld false 1 (.v 24)),
  yG 26 21 false (.fa 0 (.v 4)),
  yG 27 21 false (.ld false 1 (.v 26)),
  yG 28 21 false (.iaS 1 (.v 25) (.v 27)),
  yG 29 21 false (.ld false 1 (.v 28)),
  yO 30 (.pk (.v 21) (yB true) (.v 29)),
  yM 31 30,
  yG 32 31 false (.fa 0 (.v 1)),
  yG 33 31 false (.fa 0 (.v 32)),
  yG 34 31 false (.fa 1 (.v 33)),
  yG 35 31 false (.ld false 1 (.v 34))] ++ mkL [0,1,4,8,9,10,31,35] ([
  yG 36 31 false (.fa 1 (.v 4)),
  yG 37 31 false (.ld false 1 (.v 36)),
  yG 38 31 false (.iaS 1 (.v 35) (.v 37)),
  yG 39 31 false (.ld false 1 (.v 38)),
  yO 40 (.pk (.v 31) (yB true) (.v 39))])))) <|
  .cond (.v 40) (.exit 1) (.nop)) <|
  .seq (.ops ([
  yM 41 0,
  yD 42 4 4,
  yO 43 (.call (.v 41) [(.v 42)]),
  yO 44 (.nt (.v 43))])) <|
  .cond (.v 44) (.ret) (.nop))) <|
 .ops ([
 yO 45 (.bin .add false (.v 10) (yI 1)),
 yM 10 45])
noncomputable def il97l0:C:=il97l0b
theorem il97l0_go {P pol K I n f R e h}:wc P pol K I n f il97l0 R e h = wc P pol K I n f il97l0b R e h:=(fun x=>x) rfl
noncomputable def il97c:C :=
 .seq (.ops ([
 yF 5 0 1,
 yF 6 0 5,
 yF 7 2 6,
 yL 8 1 7,
 yO 9 (.lenS (.v 8)),
 yO 10 (.mv (yI 0))])) <|
 .block 0 (.loop (some [0,1,8,9,10]) il97l0)
theorem il97_eq:cFn Try.prog pol 97 = some ⟨46,il97c,[]⟩:=by kernel_rfl
noncomputable def il98c:C :=
 .seq (.ops ([
 yO 2 (.mv (yB false))])) <|
 .seq (.ops ([
 yM 3 0,
 yM 4 0,
 yO 5 (.bin .neq false (.v 3) (.v 4)),
 yM 2 5])) <|
 .ret
theorem il98_eq:cFn Try.prog pol 98 = some ⟨6,il98c,[(2,none)]⟩:=by kernel_rfl
noncomputable def il99l0b:C :=
 .seq (.ops ([
 yO 11 (.bin .lss false (.v 10) (.v 9))])) <|
 .seq (.cond (.v 11) (.nop) (.exit 0)) <|
 .seq (.block 1 (.seq (.ops ([
  yM 12 10,
  yO 13 (.iaS 8 (.v 8) (.v 10)),
  yD 14 8 13,
  yO 4 (.nw 8 (.agg [(.sc (.bool false)),yZ,yZ,yZ,yZ,yZ,yZ,yZ])),
  yM 3 12,
  yN (.st 8 (.v 4) (.v 14))])) <|
  .seq (.ops ([
  yF 15 1 4,
  yF 16 0 15,
  yD 17 6 16,
  yO 5 (.nw 6 (.agg [yZ,yZ,yZ,yZ,yZ,yZ])),
  yN (.st 6 (.v 5) (.v 17))])) <|
  .seq (.opsD [] ([
  yF 18 2 5,
  yP 19 18 (.ld false 1 (.v 18))] ++ mkL [0,1,3,4,5,8,9,10,19] ([
  yF 20 0 1,
  yF 21 3 20,
  yP 22 21 (.ld false 1 (.v 21)),
  yM 23 3,
  yO 24 (.iaS 1 (.v 22) (.v 23)),
  yP 25 24 (.ld false 1 (.v 24)),
  yO 26 (.bin .add false (.v 19) (.v 25)),
  yF 27 2 5,
  yT 27 (.st 1 (.v 27) (.v 26))]))) <|
  .seq (.seq (.ops ([
  yF 28 0 4,
  yL 29 1 28,
  yO 30 (.nt (.v 29)),
  yM 31 30,
  yG 32 31 false (.fa 2 (.v 5))] ++ mkL [0,1,3,5,8,9,10,31,32] ([
  yG 33 31 false (.ld false 1 (.v 32)),
  yG 34 31 false (.bin .gtr false (.v 33) (yI 1048576)),
  yO 35 (.pk (.v 31) (yB true) (.v 34)),
  yM 36 35,
  yG 37 36 false (.fa 0 (.v 5)),
  yG 38 36 false (.ld true 2 (.v 37)),
  yG 39 36 false (.fa 0 (.v 1)),
  yG 40 36 false (.fa 0 (.v 39)),
  yG 41 36 false (.ld true 2 (.v 40)),
  yG 42 36 false (.call (yC 100) [(.v 38),(.v 41)]),
  yG 43 36 false (.nt (.v 42)),
  yO 44 (.pk (.v 36) (yB true) (.v 43))]))) <|
  .cond (.v 44) (.exit 1) (.nop)) <|
  .seq (.ops ([
  yM 45 0,
  yM 46 3] ++ mkL [0,1,5,8,9,10,45,46] ([
  yD 47 6 5,
  yO 48 (.call (.v 45) [(.v 46),(.v 47)]),
  yO 49 (.nt (.v 48))]))) <|
  .cond (.v 49) (.exit 0) (.nop))) <|
 .ops ([
 yO 50 (.bin .add false (.v 10) (yI 1)),
 yM 10 50])
noncomputable def il99l0:C:=il99l0b
theorem il99l0_go {P pol K I n f R e h}:wc P pol K I n f il99l0 R e h = wc P pol K I n f il99l0b R e h:=(fun x=>x) rfl
noncomputable def il99c:C :=
 .seq (.nop) <|
 .seq (.ops ([
 yF 6 0 1,
 yF 7 4 6,
 yL 8 1 7,
 yO 9 (.lenS (.v 8)),
 yO 10 (.mv (yI 0))])) <|
 .block 0 (.loop (some [0,1,8,9,10]) il99l0)
theorem il99_eq:cFn Try.prog pol 99 = some ⟨51,il99c,[]⟩:=by kernel_rfl
noncomputable def il100c:C :=
 .seq (.ops ([
 yO 2 (.bx false (.v 0)),
 yO 3 (.bx false (.v 1)),
 yO 4 (.mv (yB false))])) <|
 .seq (.ops ([
 yD 5 2 2,
 yO 6 (.bd [yZ,yZ,yZ,yZ,yZ,yZ] [(0,2,(.v 5))]),
 yD 7 2 3,
 yO 8 (.bd [yZ,yZ,yZ,yZ,yZ,yZ] [(0,2,(.v 7))]),
 yO 9 (.call (yC 49) [(.v 6),(.v 8)]),
 yO 10 (.bin .lss false (.v 9) (yI 0)),
 yM 4 10])) <|
 .ret
theorem il100_eq:cFn Try.prog pol 100 = some ⟨11,il100c,[(4,none)]⟩:=by kernel_rfl
noncomputable def il101c:C :=
 .seq (.ops ([
 yO 1 (.bx false (.v 0)),
 yO 2 (.mv (yB false))])) <|
 .seq (.ops ([
 yF 3 0 1,
 yL 4 1 3,
 yO 5 (.call (yC 102) [(.v 4),(yI 0),(yI 15)]),
 yM 6 5,
 yG 7 6 true (.fa 1 (.v 1)),
 yG 8 6 true (.ld false 1 (.v 7)),
 yG 9 6 true (.call (yC 102) [(.v 8),(yI 0),(yI 11)]),
 yO 10 (.pk (.v 6) (.v 9) (yB false)),
 yM 2 10])) <|
 .ret
theorem il101_eq:cFn Try.prog pol 101 = some ⟨11,il101c,[(2,none)]⟩:=by kernel_rfl
noncomputable def il102c:C :=
 .seq (.ops ([
 yO 6 (.mv (yB false))])) <|
 .seq (.ops ([
 yM 7 0,
 yM 8 1,
 yO 9 (.bin .geq false (.v 7) (.v 8)),
 yM 10 9,
 yG 11 10 true (.mv (.v 0)),
 yG 12 10 true (.mv (.v 2)),
 yG 13 10 true (.bin .leq false (.v 11) (.v 12)),
 yO 14 (.pk (.v 10) (.v 13) (yB false)),
 yM 6 14])) <|
 .ret
theorem il102_eq:cFn Try.prog pol 102 = some ⟨15,il102c,[(6,none)]⟩:=by kernel_rfl
noncomputable def il103c:C :=
 .seq (.ops ([
 yO 2 (.mv (yB false))])) <|
 .seq (.ops ([
 yM 3 0,
 yO 4 (.call (yC 102) [(.v 3),(yI 0),(yI 47)]),
 yM 2 4])) <|
 .ret
theorem il103_eq:cFn Try.prog pol 103 = some ⟨5,il103c,[(2,none)]⟩:=by kernel_rfl
noncomputable def il104l0b:C :=
 .seq (.ops ([
 yO 9 (.bin .lss false (.v 8) (.v 7))])) <|
 .seq (.cond (.v 9) (.nop) (.exit 0)) <|
 .seq (.block 1 (.seq (.ops ([
  yM 10 8,
  yO 11 (.iaS 4 (.v 6) (.v 8)),
  yD 12 4 11,
  yO 4 (.nw 4 (.agg [yZ,yZ,yZ,yZ])),
  yM 3 10,
  yN (.st 4 (.v 4) (.v 12))])) <|
  .seq (.ops ([
  yM 13 0,
  yD 14 4 4,
  yM 15 3,
  yO 16 (.bin .mul false (yI 2) (.v 15)),
  yO 17 (.bd [yZ,yZ,yZ,yZ,yZ] [(0,4,(.v 14)),(4,1,(.v 16))]),
  yO 18 (.call (.v 13) [(.v 17)]),
  yO 19 (.nt (.v 18))] ++ mkL [0,3,4,6,7,8,19] ([
  yM 20 19,
  yG 21 20 false (.mv (.v 0)),
  yG 22 20 false (.ld true 4 (.v 4)),
  yG 23 20 false (.mv (.v 3)),
  yG 24 20 false (.bin .mul false (yI 2) (.v 23)),
  yG 25 20 false (.bin .add false (.v 24) (yI 1)),
  yG 26 20 false (.bd [yZ,yZ,yZ,yZ,yZ] [(0,4,(.v 22)),(4,1,(.v 25))]),
  yG 27 20 false (.call (.v 21) [(.v 26)]),
  yG 28 20 false (.nt (.v 27)),
  yO 29 (.pk (.v 20) (yB true) (.v 28))]))) <|
  .cond (.v 29) (.ret) (.nop))) <|
 .ops ([
 yO 30 (.bin .add false (.v 8) (yI 1)),
 yM 8 30])
noncomputable def il104l0:C:=il104l0b
theorem il104l0_go {P pol K I n f R e h}:wc P pol K I n f il104l0 R e h = wc P pol K I n f il104l0b R e h:=(fun x=>x) rfl
noncomputable def il104c:C :=
 .seq (.ops ([
 yF 5 2 1,
 yL 6 1 5,
 yO 7 (.lenS (.v 6)),
 yO 8 (.mv (yI 0))])) <|
 .block 0 (.loop (some [0,6,7,8]) il104l0)
theorem il104_eq:cFn Try.prog pol 104 = some ⟨31,il104c,[]⟩:=by kernel_rfl
attribute [go_sem] eqT32
attribute [go_sem] eqT51
attribute [go_sem] eqT50
attribute [go_sem] eqT55
attribute [go_sem] eqT31
attribute [go_sem] eqT27
attribute [go_sem] eqT28
attribute [go_sem] eqT59
attribute [go_sem] raw11_4_3
attribute [go_sem] raw15_6_5
attribute [go_sem] raw15_6_8
attribute [go_sem] raw17_1_1
attribute [go_sem] raw23_1_1
attribute [go_sem] raw24_1_6
attribute [go_sem] raw25_3_4
attribute [go_sem] raw25_8_7
attribute [go_sem] raw30_4_3
attribute [go_sem] raw30_5_4
attribute [go_sem] raw32_5_2
attribute [go_sem] raw35_1_5
attribute [go_sem] raw37_3_3
attribute [go_sem] raw37_5_9
attribute [go_sem] raw38_1_2
attribute [go_sem] raw39_1_8
attribute [go_sem] raw46_1_4
attribute [go_sem] raw47_1_4
attribute [go_sem] raw47_5_7
attribute [go_sem] raw49_1_2
attribute [go_sem] raw53_1_4
attribute [go_sem] raw55_1_1
attribute [go_sem] raw56_1_1
attribute [go_sem] raw57_1_1
attribute [go_sem] raw58_14_15
attribute [go_sem] raw80_1_2
attribute [go_sem] raw80_2_2
attribute [go_sem] raw81_1_2
attribute [go_sem] raw81_2_2
attribute [go_sem] raw88_1_4
attribute [go_sem] raw90_1_5
end Go.Proofs.Ytbibdnlbpjnieaa
