/- The law AuditKnown. -/
import Derived.Test.YthcaepnclhgkmaaDoorAuX
import Derived.Test.YthcaepnclhgkmaaDoorWorks44
namespace Go.Proofs.YthcaepnclhgkmaaDoor
open Go Go.Abs
set_option linter.unusedSimpArgs false
set_option linter.unusedVariables false
set_option maxRecDepth 100000
set_option maxHeartbeats 4000000

theorem sent_ans (a b c : Int) : ans Tryd.prog pol 24 [J a, J b, J c] = some (.agg [J 1, J a, J b, J c]) := by
  refine ans_go 1 1 il24_eq (Nat.le_of_ble_eq_true rfl) ?_
  (simp only [il24c, go_sem, reduceIte, Nat.reduceEqDiff, Nat.reduceAdd, Int.reduceEq, Nat.reduceLeDiff, Nat.reduceLT, Nat.reduceBEq, Nat.reduceMul, Nat.reduceSub, Int.reduceToNat, Int.reduceLE, Int.reduceLT, Int.reduceAdd, Int.reduceSub, Int.reduceMul, Int.reduceNeg, Int.reduceDiv, Int.reduceMod, Int.reduceTDiv, Int.reduceTMod, Int.reducePow] <;> (repeat' ((first | with_reducible refine brG_intro (fun hc => ?_) (fun hc => ?_) | with_reducible refine brC_intro (fun hc => ?_) (fun hc => ?_) | ((with_reducible refine c_opsD ?_); have hc := @List.length_nil Nat) | ((with_reducible refine c_opsT ?_); have hc := @List.length_nil Nat) | ((with_reducible refine and_crit ?_ ?_); rfl; have hc := @List.length_nil Nat) | ((with_reducible refine crit_done ?_); rfl) | ((with_reducible refine mkC_go (fun _ => ?_)); have hc := @List.length_nil Nat) | ((with_reducible refine mkL_go (fun _ => ?_)); have hc := @List.length_nil Nat)) <;> (try simp only [Bool.not_eq_true', Bool.not_eq_false', Bool.not_true, Bool.not_false] at hc) <;> (try simp only [hc, go_sem, reduceIte, Nat.reduceEqDiff, Nat.reduceAdd, Int.reduceEq, Nat.reduceLeDiff, Nat.reduceLT, Nat.reduceBEq, Nat.reduceMul, Nat.reduceSub, Int.reduceToNat, Int.reduceLE, Int.reduceLT, Int.reduceAdd, Int.reduceSub, Int.reduceMul, Int.reduceNeg, Int.reduceDiv, Int.reduceMod, Int.reduceTDiv, Int.reduceTMod, Int.reducePow]))))
theorem got_ans (a b c : Int) : ans Tryd.prog pol 25 [J a, J b, J c] = some (.agg [J 2, J a, J b, J c]) := by
  refine ans_go 1 1 il25_eq (Nat.le_of_ble_eq_true rfl) ?_
  (simp only [il25c, go_sem, reduceIte, Nat.reduceEqDiff, Nat.reduceAdd, Int.reduceEq, Nat.reduceLeDiff, Nat.reduceLT, Nat.reduceBEq, Nat.reduceMul, Nat.reduceSub, Int.reduceToNat, Int.reduceLE, Int.reduceLT, Int.reduceAdd, Int.reduceSub, Int.reduceMul, Int.reduceNeg, Int.reduceDiv, Int.reduceMod, Int.reduceTDiv, Int.reduceTMod, Int.reducePow] <;> (repeat' ((first | with_reducible refine brG_intro (fun hc => ?_) (fun hc => ?_) | with_reducible refine brC_intro (fun hc => ?_) (fun hc => ?_) | ((with_reducible refine c_opsD ?_); have hc := @List.length_nil Nat) | ((with_reducible refine c_opsT ?_); have hc := @List.length_nil Nat) | ((with_reducible refine and_crit ?_ ?_); rfl; have hc := @List.length_nil Nat) | ((with_reducible refine crit_done ?_); rfl) | ((with_reducible refine mkC_go (fun _ => ?_)); have hc := @List.length_nil Nat) | ((with_reducible refine mkL_go (fun _ => ?_)); have hc := @List.length_nil Nat)) <;> (try simp only [Bool.not_eq_true', Bool.not_eq_false', Bool.not_true, Bool.not_false] at hc) <;> (try simp only [hc, go_sem, reduceIte, Nat.reduceEqDiff, Nat.reduceAdd, Int.reduceEq, Nat.reduceLeDiff, Nat.reduceLT, Nat.reduceBEq, Nat.reduceMul, Nat.reduceSub, Int.reduceToNat, Int.reduceLE, Int.reduceLT, Int.reduceAdd, Int.reduceSub, Int.reduceMul, Int.reduceNeg, Int.reduceDiv, Int.reduceMod, Int.reduceTDiv, Int.reduceTMod, Int.reducePow]))))
abbrev nS (s q t : Int) : T := .agg [J 1, J s, J q, J t]
abbrev nG (s q t : Int) : T := .agg [J 2, J s, J q, J t]
abbrev fA (k i s q : Int) : T := .agg [J k, J i, J s, J q]
theorem fi1 : ans Tryd.prog pol 23 [J 20, fA 2 1 1 0, .sl true 4 [nS 1 0 0, nS 1 0 0]] = some (B true) := ans_of_run (n := 100) 12 (by kernel_rfl)
theorem fi2 : ans Tryd.prog pol 23 [J 0, fA 3 0 2 9, .sl true 4 [nG 2 9 0]] = some (B true) := ans_of_run (n := 100) 12 (by kernel_rfl)
theorem fi3 : ans Tryd.prog pol 23 [J 21, fA 6 1 1 0, .sl true 4 [nS 1 0 0, nG 1 0 21]] = some (B true) := ans_of_run (n := 100) 12 (by kernel_rfl)
theorem fi4 : ans Tryd.prog pol 23 [J 20, fA 0 0 0 0, .sl true 4 [nS 1 0 0, nG 1 0 20]] = some (B true) := ans_of_run (n := 100) 12 (by kernel_rfl)
theorem fi5 : ans Tryd.prog pol 23 [J 5, fA 0 0 0 0, .sl true 4 [nS 1 0 0, nG 1 0 5]] = some (B true) := ans_of_run (n := 100) 12 (by kernel_rfl)
theorem fi6 : ans Tryd.prog pol 23 [J 90, fA 4 2 1 0, .sl true 4 [nS 1 0 0, nG 1 0 9, nG 1 0 90]] = some (B true) := ans_of_run (n := 100) 12 (by kernel_rfl)
theorem fi7 : ans Tryd.prog pol 23 [J 3, fA 0 0 0 0, .sl true 4 [nS 2 0 0, nS 2 1 0, nG 2 1 1, nG 2 0 1]] = some (B true) := ans_of_run (n := 100) 12 (by kernel_rfl)
def many (n : Nat) : List Ru := (List.range n).map fun i => ⟨((i + 1 : Nat) : Int), 0, 0, false⟩
theorem au1 : ans Tryd.prog pol 12 [.sl false 4 ((many 13).map encR), .sl true 4 [fA 0 0 0 0], J (-1)] = some (.tup [fA 0 0 0 0, J 541]) := ans_of_run (n := 100) 12 (by kernel_rfl)
theorem au2 : ans Tryd.prog pol 12 [.sl false 4 ((many 12).map encR), .sl true 4 [fA 0 0 0 0], J (-1)] = some (.tup [fA 0 0 0 0, J 540]) := ans_of_run (n := 100) 12 (by kernel_rfl)
theorem au3 : ans Tryd.prog pol 12 [.sl false 4 ((many 12).map encR), .sc (.slice none 0 0), J (-1)] = some (.tup [fA 0 0 0 0, J 2]) := ans_of_run (n := 100) 12 (by kernel_rfl)
theorem au4 : ans Tryd.prog pol 12 [.sc (.slice none 0 0), .sc (.slice none 0 0), J 1099511627776] = some (.tup [fA 0 0 0 0, J 0]) := ans_of_run (n := 100) 12 (by kernel_rfl)
theorem say1 : ans Tryd.prog pol 19 [fA 8 (-1) 4095 (-9223372036854775808)] = some (.tup [.sc (.string ⟨#[108, 111, 115, 116, 32, 45, 49, 32, 52, 48, 57, 53, 32, 45, 57, 50, 50, 51, 51, 55, 50, 48, 51, 54, 56, 53, 52, 55, 55, 53, 56, 48, 56]⟩), J 0]) := ans_of_run (n := 100) 12 (by kernel_rfl)
theorem ch1 : ans Tryd.prog pol 26 [.sl true 4 [.agg [J 1, J 2, J 1, B false]]] = some (J 541) := ans_of_run (n := 100) 12 (by kernel_rfl)
end Go.Proofs.YthcaepnclhgkmaaDoor
