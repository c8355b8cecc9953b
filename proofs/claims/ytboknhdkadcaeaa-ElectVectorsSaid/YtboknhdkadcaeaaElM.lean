/- Roles: the code's and the reference's. -/
import Derived.Test.YtboknhdkadcaeaaElK
namespace Go.Proofs.Ytboknhdkadcaeaa
open Go Go.Abs
set_option linter.unusedSimpArgs false
set_option linter.unusedVariables false
set_option maxRecDepth 100000
set_option maxHeartbeats 4000000

def plc (v : List Vc) (i : Int) : Vc := ⟨(vAt v i.toNat).m, (vAt v i.toNat).st, i, 0⟩
def roleOf (v : List Vc) (i : Nat) (kj : Int × Int) : Int := if (vAt v i).ln = kj.1 then 1 else if cmpV (plc v i) (plc v kj.2) < 0 then 2 else 3
def rolesL (lk : List (Int × Int)) (v : List Vc) (i : Nat) : List Int := (nbs i 0 lk).map (roleOf v i)

theorem place_ans (cl : Bool) (v : List Vc) (j : Int) (hj : 0 ≤ j ∧ j < (v.length : Nat)) : ans Try.prog pol 44 [I' j, .ip [.sl cl 9 (v.map encV)]] = some (vcT (plc v j)) := by
  obtain ⟨j, rfl⟩ := Int.eq_ofNat_of_zero_le hj.1
  obtain ⟨w, hw⟩ : ∃ w, v[j]? = some w := ⟨v[j]'(by omega), by simp⟩
  have hg : (v.map encV)[j]? = some (encV w) := by simp [hw]
  have hp : plc v (j : Int) = ⟨w.m, w.st, j, 0⟩ := by simp [plc, vAt, hw]
  rw [hp]
  refine ans_go 1 1 il44_eq (Nat.le_of_ble_eq_true rfl) ?_
  (simp only [il44c, go_sem, reduceIte, Nat.reduceEqDiff, Nat.reduceAdd, Int.reduceEq, Nat.reduceLeDiff, Nat.reduceLT, Nat.reduceBEq, Nat.reduceMul, Nat.reduceSub, Int.reduceToNat, Int.reduceLE, Int.reduceLT, Int.reduceAdd, Int.reduceSub, Int.reduceMul, Int.reduceNeg, Int.reduceDiv, Int.reduceMod, Int.reduceTDiv, Int.reduceTMod, Int.reducePow, hg, encV_cells] <;> (repeat' ((first | with_reducible refine brG_intro (fun hc => ?_) (fun hc => ?_) | with_reducible refine brC_intro (fun hc => ?_) (fun hc => ?_) | ((with_reducible refine c_opsD ?_); have hc := @List.length_nil Nat) | ((with_reducible refine c_opsT ?_); have hc := @List.length_nil Nat) | ((with_reducible refine and_crit ?_ ?_); rfl; have hc := @List.length_nil Nat) | ((with_reducible refine crit_done ?_); rfl) | ((with_reducible refine mkC_go (fun _ => ?_)); have hc := @List.length_nil Nat) | ((with_reducible refine mkL_go (fun _ => ?_)); have hc := @List.length_nil Nat)) <;> (try simp only [Bool.not_eq_true', Bool.not_eq_false', Bool.not_true, Bool.not_false] at hc) <;> (try simp only [hc, go_sem, reduceIte, Nat.reduceEqDiff, Nat.reduceAdd, Int.reduceEq, Nat.reduceLeDiff, Nat.reduceLT, Nat.reduceBEq, Nat.reduceMul, Nat.reduceSub, Int.reduceToNat, Int.reduceLE, Int.reduceLT, Int.reduceAdd, Int.reduceSub, Int.reduceMul, Int.reduceNeg, Int.reduceDiv, Int.reduceMod, Int.reduceTDiv, Int.reduceTMod, Int.reducePow, hg, encV_cells]))))

theorem cmpV_ans (a b : Vc) : ans Try.prog pol 36 [vcT a, vcT b] = some (I' (cmpV a b)) :=
  compare_ans a.m.p1 a.m.cl a.m.ac a.m.va a.m.p2 a.m.id a.st a.sn a.ln b.m.p1 b.m.cl b.m.ac b.m.va b.m.p2 b.m.id b.st b.sn b.ln

/-- The loop that waits for neighbours, in Roles. -/
noncomputable def lpO' (rf : Code × Code) (E : FEnv) : AObj := .loop 24 (lpEnv 59 (tidyF (some [4, 5, 9, 10]) E)) [30, 31] rf.1 rf.2 false none
def plF (cl : Bool) (v : List Vc) : T := .fn (.func 44) [] [.ip [.sl cl 9 (v.map encV)]]
noncomputable def hpO (rf : Code × Code) (cl : Bool) (v : List Vc) (E : FEnv) (o : List Int) : Heap := [.row 1 [.t (plF cl v)] 1, rowG 1 I' o, .row 1 [.ms 1 o.length 0 o.length 1 false] (if o.length = 0 then 0 else 1), lpO' rf E]

theorem rol_yield (rf : Code × Code) (hrf : rfOf Try.prog 24 0 = rf) (cl : Bool) (v : List Vc) (hv : v.length ≤ 12) (E : FEnv) (i : Nat) (hi : i < v.length) (hE : E 4 = .t (.ip [.sl cl 9 (v.map encV)]) ∧ E 5 = .t (.ip [I' (i : Nat)]) ∧ E 9 = .ref 0 1 0 0 ∧ E 10 = .ref 2 1 0 0) (dd nn : Nat) (o : List Int) (ho : o.length ≤ 1000) (kj : Int × Int) (hj : 0 ≤ kj.2 ∧ kj.2 < (v.length : Nat)) (X : Heap) (Q : AV → Heap → Prop)
    (hQ : ∀ X', Q (.t (B' true)) (hpO rf cl v E (o ++ [roleOf v i kj]) ++ X ++ X')) :
    oB (inl Try.prog pol (ans Try.prog pol) nn (dd + 1) (.yl 3) [.t (I' kj.1), .t (I' kj.2)] (hpO rf cl v E o ++ X)) Q := by
  subst hrf
  obtain ⟨k, j⟩ := kj
  simp only at hj
  obtain ⟨w, hw⟩ : ∃ w, v[i]? = some w := ⟨v[i]'(by omega), by simp⟩
  have hg : (v.map encV)[i]? = some (encV w) := by simp [hw]
  have c1 := place_ans cl v (i : Nat) (by omega)
  have c2 := place_ans cl v j hj
  have c3 := cmpV_ans (plc v i) (plc v j)
  have hroom : (o.length + 1) * 8 ≤ roomB := ap_room (by omega) (by omega)
  have hmr : (if o.length = 0 then 0 else 1) ≤ 1 := by split <;> omega
  have hq := hQ []
  have hvi : (vAt v i).ln = w.ln := by simp [vAt, hw]
  simp only [roleOf, hvi, List.append_nil] at hq
  simp only [hpO, lpO'] at hq ⊢
  refine oB_yl (E := tidyF (some [4, 5, 9, 10]) E) rfl rfl rfl il24r0a_eq il24r0b_eq ?_
  by_cases q : w.ln = k
  · have d1 : decide (w.ln = k) = true := decide_eq_true q
    rw [if_pos q, ← rowG_push] at hq
    simp only [List.length_append, List.length_cons, List.length_nil, Nat.zero_add, Nat.add_eq_zero_iff, Nat.one_ne_zero, and_false, if_false] at hq
    (simp only [il24r0a, il24r0b, go_sem, reduceIte, Nat.reduceEqDiff, Nat.reduceAdd, Int.reduceEq, Nat.reduceLeDiff, Nat.reduceLT, Nat.reduceBEq, Nat.reduceMul, Nat.reduceSub, Int.reduceToNat, Int.reduceLE, Int.reduceLT, Int.reduceAdd, Int.reduceSub, Int.reduceMul, Int.reduceNeg, Int.reduceDiv, Int.reduceMod, Int.reduceTDiv, Int.reduceTMod, Int.reducePow, hE, hg, encV_cells, d1, hroom, rowG_is, rowG_es, rowG_mr, hmr] <;> (repeat' ((first | with_reducible refine brG_intro (fun hc => ?_) (fun hc => ?_) | with_reducible refine brC_intro (fun hc => ?_) (fun hc => ?_) | ((with_reducible refine c_opsD ?_); have hc := @List.length_nil Nat) | ((with_reducible refine c_opsT ?_); have hc := @List.length_nil Nat) | ((with_reducible refine and_crit ?_ ?_); rfl; have hc := @List.length_nil Nat) | ((with_reducible refine crit_done ?_); rfl) | ((with_reducible refine mkC_go (fun _ => ?_)); have hc := @List.length_nil Nat) | ((with_reducible refine mkL_go (fun _ => ?_)); have hc := @List.length_nil Nat)) <;> (try simp only [Bool.not_eq_true', Bool.not_eq_false', Bool.not_true, Bool.not_false] at hc) <;> (try simp only [hc, go_sem, reduceIte, Nat.reduceEqDiff, Nat.reduceAdd, Int.reduceEq, Nat.reduceLeDiff, Nat.reduceLT, Nat.reduceBEq, Nat.reduceMul, Nat.reduceSub, Int.reduceToNat, Int.reduceLE, Int.reduceLT, Int.reduceAdd, Int.reduceSub, Int.reduceMul, Int.reduceNeg, Int.reduceDiv, Int.reduceMod, Int.reduceTDiv, Int.reduceTMod, Int.reducePow, hE, hg, encV_cells, d1, hroom, rowG_is, rowG_es, rowG_mr, hmr]))))
    all_goals exact hq
  · have d1 : decide (w.ln = k) = false := decide_eq_false q
    rw [if_neg q] at hq
    by_cases r : cmpV (plc v i) (plc v j) < 0
    · have d2 : decide (cmpV (plc v i) (plc v j) < 0) = true := decide_eq_true r
      rw [if_pos r, ← rowG_push] at hq
      simp only [List.length_append, List.length_cons, List.length_nil, Nat.zero_add, Nat.add_eq_zero_iff, Nat.one_ne_zero, and_false, if_false] at hq
      (simp only [il24r0a, il24r0b, go_sem, reduceIte, Nat.reduceEqDiff, Nat.reduceAdd, Int.reduceEq, Nat.reduceLeDiff, Nat.reduceLT, Nat.reduceBEq, Nat.reduceMul, Nat.reduceSub, Int.reduceToNat, Int.reduceLE, Int.reduceLT, Int.reduceAdd, Int.reduceSub, Int.reduceMul, Int.reduceNeg, Int.reduceDiv, Int.reduceMod, Int.reduceTDiv, Int.reduceTMod, Int.reducePow, hE, hg, encV_cells, d1, d2, c1, c2, c3, plF, hroom, rowG_is, rowG_es, rowG_mr, hmr] <;> (repeat' ((first | with_reducible refine brG_intro (fun hc => ?_) (fun hc => ?_) | with_reducible refine brC_intro (fun hc => ?_) (fun hc => ?_) | ((with_reducible refine c_opsD ?_); have hc := @List.length_nil Nat) | ((with_reducible refine c_opsT ?_); have hc := @List.length_nil Nat) | ((with_reducible refine and_crit ?_ ?_); rfl; have hc := @List.length_nil Nat) | ((with_reducible refine crit_done ?_); rfl) | ((with_reducible refine mkC_go (fun _ => ?_)); have hc := @List.length_nil Nat) | ((with_reducible refine mkL_go (fun _ => ?_)); have hc := @List.length_nil Nat)) <;> (try simp only [Bool.not_eq_true', Bool.not_eq_false', Bool.not_true, Bool.not_false] at hc) <;> (try simp only [hc, go_sem, reduceIte, Nat.reduceEqDiff, Nat.reduceAdd, Int.reduceEq, Nat.reduceLeDiff, Nat.reduceLT, Nat.reduceBEq, Nat.reduceMul, Nat.reduceSub, Int.reduceToNat, Int.reduceLE, Int.reduceLT, Int.reduceAdd, Int.reduceSub, Int.reduceMul, Int.reduceNeg, Int.reduceDiv, Int.reduceMod, Int.reduceTDiv, Int.reduceTMod, Int.reducePow, hE, hg, encV_cells, d1, d2, c1, c2, c3, plF, hroom, rowG_is, rowG_es, rowG_mr, hmr]))))
      all_goals exact hq
    · have d2 : decide (cmpV (plc v i) (plc v j) < 0) = false := decide_eq_false r
      rw [if_neg r, ← rowG_push] at hq
      simp only [List.length_append, List.length_cons, List.length_nil, Nat.zero_add, Nat.add_eq_zero_iff, Nat.one_ne_zero, and_false, if_false] at hq
      (simp only [il24r0a, il24r0b, go_sem, reduceIte, Nat.reduceEqDiff, Nat.reduceAdd, Int.reduceEq, Nat.reduceLeDiff, Nat.reduceLT, Nat.reduceBEq, Nat.reduceMul, Nat.reduceSub, Int.reduceToNat, Int.reduceLE, Int.reduceLT, Int.reduceAdd, Int.reduceSub, Int.reduceMul, Int.reduceNeg, Int.reduceDiv, Int.reduceMod, Int.reduceTDiv, Int.reduceTMod, Int.reducePow, hE, hg, encV_cells, d1, d2, c1, c2, c3, plF, hroom, rowG_is, rowG_es, rowG_mr, hmr] <;> (repeat' ((first | with_reducible refine brG_intro (fun hc => ?_) (fun hc => ?_) | with_reducible refine brC_intro (fun hc => ?_) (fun hc => ?_) | ((with_reducible refine c_opsD ?_); have hc := @List.length_nil Nat) | ((with_reducible refine c_opsT ?_); have hc := @List.length_nil Nat) | ((with_reducible refine and_crit ?_ ?_); rfl; have hc := @List.length_nil Nat) | ((with_reducible refine crit_done ?_); rfl) | ((with_reducible refine mkC_go (fun _ => ?_)); have hc := @List.length_nil Nat) | ((with_reducible refine mkL_go (fun _ => ?_)); have hc := @List.length_nil Nat)) <;> (try simp only [Bool.not_eq_true', Bool.not_eq_false', Bool.not_true, Bool.not_false] at hc) <;> (try simp only [hc, go_sem, reduceIte, Nat.reduceEqDiff, Nat.reduceAdd, Int.reduceEq, Nat.reduceLeDiff, Nat.reduceLT, Nat.reduceBEq, Nat.reduceMul, Nat.reduceSub, Int.reduceToNat, Int.reduceLE, Int.reduceLT, Int.reduceAdd, Int.reduceSub, Int.reduceMul, Int.reduceNeg, Int.reduceDiv, Int.reduceMod, Int.reduceTDiv, Int.reduceTMod, Int.reducePow, hE, hg, encV_cells, d1, d2, c1, c2, c3, plF, hroom, rowG_is, rowG_es, rowG_mr, hmr]))))
      all_goals exact hq

theorem hpO_frz (rf : Code × Code) (cl : Bool) (v : List Vc) (E : FEnv) (hE : E 4 = .t (.ip [.sl cl 9 (v.map encV)]) ∧ E 9 = .ref 0 1 0 0 ∧ E 10 = .ref 2 1 0 0) (i : T) (h5 : E 5 = .t i) (o : List Int) (h : Heap) (q : Nat) (hq : 4 ≤ q) : mapO (frzObj h (fromB q)) (hpO rf cl v E o) = some (hpO rf cl v E o) := by
  have f0 : decide (q ≤ 0) = false := decide_eq_false (by omega)
  have f1 : decide (q ≤ 1) = false := decide_eq_false (by omega)
  have f2 : decide (q ≤ 2) = false := decide_eq_false (by omega)
  have h1 : frzObj h (fromB q) (lpO' rf E) = some (lpO' rf E) := by
    rw [lpO', frz_loop]
    simp only [go_sem, reduceIte, Nat.reduceEqDiff, Nat.reduceAdd, Int.reduceEq, Nat.reduceLeDiff, Nat.reduceLT, Nat.reduceBEq, Nat.reduceMul, Nat.reduceSub, Int.reduceToNat, Int.reduceLE, Int.reduceLT, Int.reduceAdd, Int.reduceSub, Int.reduceMul, Int.reduceNeg, Int.reduceDiv, Int.reduceMod, Int.reduceTDiv, Int.reduceTMod, Int.reducePow, hE, h5, f0, f2]
  have h2 : ∀ mr, frzObj h (fromB q) (.row 1 [.ms 1 o.length 0 o.length 1 false] mr) = some (.row 1 [.ms 1 o.length 0 o.length 1 false] mr) := by
    intro mr; simp [frzObj, avoidAll, avoid, fromB]; omega
  have h3 : frzObj h (fromB q) (.row 1 [.t (plF cl v)] 1) = some (.row 1 [.t (plF cl v)] 1) := by simp [frzObj, avoidAll, avoid]
  simp only [hpO, mapO, frz_rowG, h1, h2, h3]

theorem Roles_bad (cl : Bool) (ms : List Ms) (lk : List (Int × Int)) (v : List Vc) (i : Int) (hv : v.length ≤ 1000) (h : errV ms lk v ≠ 0) : ans Try.prog pol 24 [spT ms lk, .sl cl 9 (v.map encV), I' i] = some (.tup [.sc (.slice none 0 0), I' (errV ms lk v)]) := by
  have c1 := checkV_ans cl ms lk v hv
  have d1 : decide (errV ms lk v = 0) = false := decide_eq_false h
  refine ans_go 1 1 il24_eq (Nat.le_of_ble_eq_true rfl) ?_
  (simp only [il24c, go_sem, reduceIte, Nat.reduceEqDiff, Nat.reduceAdd, Int.reduceEq, Nat.reduceLeDiff, Nat.reduceLT, Nat.reduceBEq, Nat.reduceMul, Nat.reduceSub, Int.reduceToNat, Int.reduceLE, Int.reduceLT, Int.reduceAdd, Int.reduceSub, Int.reduceMul, Int.reduceNeg, Int.reduceDiv, Int.reduceMod, Int.reduceTDiv, Int.reduceTMod, Int.reducePow, c1, d1] <;> (repeat' ((first | with_reducible refine brG_intro (fun hc => ?_) (fun hc => ?_) | with_reducible refine brC_intro (fun hc => ?_) (fun hc => ?_) | ((with_reducible refine c_opsD ?_); have hc := @List.length_nil Nat) | ((with_reducible refine c_opsT ?_); have hc := @List.length_nil Nat) | ((with_reducible refine and_crit ?_ ?_); rfl; have hc := @List.length_nil Nat) | ((with_reducible refine crit_done ?_); rfl) | ((with_reducible refine mkC_go (fun _ => ?_)); have hc := @List.length_nil Nat) | ((with_reducible refine mkL_go (fun _ => ?_)); have hc := @List.length_nil Nat)) <;> (try simp only [Bool.not_eq_true', Bool.not_eq_false', Bool.not_true, Bool.not_false] at hc) <;> (try simp only [hc, go_sem, reduceIte, Nat.reduceEqDiff, Nat.reduceAdd, Int.reduceEq, Nat.reduceLeDiff, Nat.reduceLT, Nat.reduceBEq, Nat.reduceMul, Nat.reduceSub, Int.reduceToNat, Int.reduceLE, Int.reduceLT, Int.reduceAdd, Int.reduceSub, Int.reduceMul, Int.reduceNeg, Int.reduceDiv, Int.reduceMod, Int.reduceTDiv, Int.reduceTMod, Int.reducePow, c1, d1]))))

theorem Roles_arg (cl : Bool) (ms : List Ms) (lk : List (Int × Int)) (v : List Vc) (i : Int) (h1 : okS ms lk = true) (h2 : okVs ms.length v = true) (hi : ¬ (0 ≤ i ∧ i < (ms.length : Nat))) : ans Try.prog pol 24 [spT ms lk, .sl cl 9 (v.map encV), I' i] = some (.tup [.sc (.slice none 0 0), I' 2]) := by
  obtain ⟨hl1, hl2⟩ := okS_len h1
  obtain ⟨hv, hok⟩ := okVs_st h2
  have c1 := checkV_ans cl ms lk v (by omega)
  have he : errV ms lk v = 0 := by rw [errV, if_pos h1, if_pos h2]
  rw [he] at c1
  have v1 : IntKind.i64.wrap ((ms.length : Nat) - 1) = ((ms.length : Nat) : Int) - 1 := wrap_i64 (by omega) (by omega)
  have c2 := inside_ans i 0 (((ms.length : Nat) : Int) - 1)
  rw [decide_eq_false (by omega)] at c2
  refine ans_go 1 1 il24_eq (Nat.le_of_ble_eq_true rfl) ?_
  (simp only [il24c, go_sem, reduceIte, Nat.reduceEqDiff, Nat.reduceAdd, Int.reduceEq, Nat.reduceLeDiff, Nat.reduceLT, Nat.reduceBEq, Nat.reduceMul, Nat.reduceSub, Int.reduceToNat, Int.reduceLE, Int.reduceLT, Int.reduceAdd, Int.reduceSub, Int.reduceMul, Int.reduceNeg, Int.reduceDiv, Int.reduceMod, Int.reduceTDiv, Int.reduceTMod, Int.reducePow, c1, v1, c2] <;> (repeat' ((first | with_reducible refine brG_intro (fun hc => ?_) (fun hc => ?_) | with_reducible refine brC_intro (fun hc => ?_) (fun hc => ?_) | ((with_reducible refine c_opsD ?_); have hc := @List.length_nil Nat) | ((with_reducible refine c_opsT ?_); have hc := @List.length_nil Nat) | ((with_reducible refine and_crit ?_ ?_); rfl; have hc := @List.length_nil Nat) | ((with_reducible refine crit_done ?_); rfl) | ((with_reducible refine mkC_go (fun _ => ?_)); have hc := @List.length_nil Nat) | ((with_reducible refine mkL_go (fun _ => ?_)); have hc := @List.length_nil Nat)) <;> (try simp only [Bool.not_eq_true', Bool.not_eq_false', Bool.not_true, Bool.not_false] at hc) <;> (try simp only [hc, go_sem, reduceIte, Nat.reduceEqDiff, Nat.reduceAdd, Int.reduceEq, Nat.reduceLeDiff, Nat.reduceLT, Nat.reduceBEq, Nat.reduceMul, Nat.reduceSub, Int.reduceToNat, Int.reduceLE, Int.reduceLT, Int.reduceAdd, Int.reduceSub, Int.reduceMul, Int.reduceNeg, Int.reduceDiv, Int.reduceMod, Int.reduceTDiv, Int.reduceTMod, Int.reducePow, c1, v1, c2]))))

theorem Roles_ok (cl : Bool) (ms : List Ms) (lk : List (Int × Int)) (v : List Vc) (i : Nat) (h1 : okS ms lk = true) (h2 : okVs ms.length v = true) (hi : i < ms.length) :
    ans Try.prog pol 24 [spT ms lk, .sl cl 9 (v.map encV), I' (i : Nat)] = some (.tup [.sl false 1 ((rolesL lk v i).map I'), I' 0]) := by
  obtain ⟨hl1, hl2⟩ := okS_len h1
  obtain ⟨hv, hok⟩ := okVs_st h2
  have c1 := checkV_ans cl ms lk v (by omega)
  have he : errV ms lk v = 0 := by rw [errV, if_pos h1, if_pos h2]
  rw [he] at c1
  have v1 : IntKind.i64.wrap ((ms.length : Nat) - 1) = ((ms.length : Nat) : Int) - 1 := wrap_i64 (by omega) (by omega)
  have c2 := inside_ans (i : Nat) 0 (((ms.length : Nat) : Int) - 1)
  rw [decide_eq_true (by omega)] at c2
  have c3 := neighbours_ans (.agg [.sl false 6 (ms.map encMs), .sl false 2 (lk.map encLk)]) (i : Nat) (.sl false 6 (ms.map encMs)) (.sl false 2 (lk.map encLk)) rfl (by simp only [go_sem, reduceIte, Nat.reduceEqDiff, Nat.reduceAdd, Int.reduceEq, Nat.reduceLeDiff, Nat.reduceLT, Nat.reduceBEq, Nat.reduceMul, Nat.reduceSub, Int.reduceToNat, Int.reduceLE, Int.reduceLT, Int.reduceAdd, Int.reduceSub, Int.reduceMul, Int.reduceNeg, Int.reduceDiv, Int.reduceMod, Int.reduceTDiv, Int.reduceTMod, Int.reducePow])
  refine ans_go 200 5 il24_eq (Nat.le_of_ble_eq_true rfl) ?_
  simp only [il24c]
  generalize hrf : rfOf Try.prog 24 0 = rf
  (simp only [il24c, go_sem, reduceIte, Nat.reduceEqDiff, Nat.reduceAdd, Int.reduceEq, Nat.reduceLeDiff, Nat.reduceLT, Nat.reduceBEq, Nat.reduceMul, Nat.reduceSub, Int.reduceToNat, Int.reduceLE, Int.reduceLT, Int.reduceAdd, Int.reduceSub, Int.reduceMul, Int.reduceNeg, Int.reduceDiv, Int.reduceMod, Int.reduceTDiv, Int.reduceTMod, Int.reducePow, c1, v1, c2, c3] <;> (repeat' ((first | with_reducible refine brG_intro (fun hc => ?_) (fun hc => ?_) | with_reducible refine brC_intro (fun hc => ?_) (fun hc => ?_) | ((with_reducible refine c_opsD ?_); have hc := @List.length_nil Nat) | ((with_reducible refine c_opsT ?_); have hc := @List.length_nil Nat) | ((with_reducible refine and_crit ?_ ?_); rfl; have hc := @List.length_nil Nat) | ((with_reducible refine crit_done ?_); rfl) | ((with_reducible refine mkC_go (fun _ => ?_)); have hc := @List.length_nil Nat) | ((with_reducible refine mkL_go (fun _ => ?_)); have hc := @List.length_nil Nat)) <;> (try simp only [Bool.not_eq_true', Bool.not_eq_false', Bool.not_true, Bool.not_false] at hc) <;> (try simp only [hc, go_sem, reduceIte, Nat.reduceEqDiff, Nat.reduceAdd, Int.reduceEq, Nat.reduceLeDiff, Nat.reduceLT, Nat.reduceBEq, Nat.reduceMul, Nat.reduceSub, Int.reduceToNat, Int.reduceLE, Int.reduceLT, Int.reduceAdd, Int.reduceSub, Int.reduceMul, Int.reduceNeg, Int.reduceDiv, Int.reduceMod, Int.reduceTDiv, Int.reduceTMod, Int.reducePow, c1, v1, c2, c3]))))
  have key : ∀ E : FEnv, ([.row 1 [.t (.fn (.func 44) [] [.ip [.sl cl 9 (v.map encV)]])] 1, .row 1 [] 0, .row 1 [.ms 1 0 0 0 1 false] 0, .loop 24 (lpEnv 59 (tidyF (some [4, 5, 9, 10]) E)) [30, 31] rf.1 rf.2 false none] : Heap) = hpO rf cl v E [] := fun E => rfl
  rw [key]
  have hb : ([] : List Int).length + 2 * lk.length ≤ 1000 := by simp; omega
  have h200 : 100 < 200 := by omega
  have h34 : 3 < 4 := by omega
  with_reducible refine nb_iter (fun o => hpO rf cl v _ o) 4 (fun o => rfl) (fun o kj => o ++ [roleOf v i kj]) 4 200 3 (fun j => 0 ≤ j ∧ j < (v.length : Nat)) (fun n o => o.length + n ≤ 1000) ?_ ?_ ?_ ?_ h34 (i : Nat) (.sl false 6 (ms.map encMs)) lk hl2 (lks_in h1 hv) [] hb _ h200 ?_
  · intro n o h; omega
  · intro n o kj h _; simp; omega
  · intro o kj X Q hz hj hQ
    exact rol_yield rf hrf cl v (by omega) _ i (by omega) (by simp only [go_sem, reduceIte, Nat.reduceEqDiff, Nat.reduceAdd, Int.reduceEq, Nat.reduceLeDiff, Nat.reduceLT, Nat.reduceBEq, Nat.reduceMul, Nat.reduceSub, Int.reduceToNat, Int.reduceLE, Int.reduceLT, Int.reduceAdd, Int.reduceSub, Int.reduceMul, Int.reduceNeg, Int.reduceDiv, Int.reduceMod, Int.reduceTDiv, Int.reduceTMod, Int.reducePow]) 3 200 o (by omega) kj hj X Q hQ
  · intro o h q hq
    exact hpO_frz rf cl v _ (by simp only [go_sem, reduceIte, Nat.reduceEqDiff, Nat.reduceAdd, Int.reduceEq, Nat.reduceLeDiff, Nat.reduceLT, Nat.reduceBEq, Nat.reduceMul, Nat.reduceSub, Int.reduceToNat, Int.reduceLE, Int.reduceLT, Int.reduceAdd, Int.reduceSub, Int.reduceMul, Int.reduceNeg, Int.reduceDiv, Int.reduceMod, Int.reduceTDiv, Int.reduceTMod, Int.reducePow]) (.ip [I' (i : Nat)]) (by simp only [go_sem, reduceIte, Nat.reduceEqDiff, Nat.reduceAdd, Int.reduceEq, Nat.reduceLeDiff, Nat.reduceLT, Nat.reduceBEq, Nat.reduceMul, Nat.reduceSub, Int.reduceToNat, Int.reduceLE, Int.reduceLT, Int.reduceAdd, Int.reduceSub, Int.reduceMul, Int.reduceNeg, Int.reduceDiv, Int.reduceMod, Int.reduceTDiv, Int.reduceTMod, Int.reducePow]) o h q hq
  · intro x
    have hr : ∀ (l : List (Int × Int)) (o : List Int), l.foldl (fun o kj => o ++ [roleOf v i kj]) o = o ++ l.map (roleOf v i) := by
      intro l
      induction l with
      | nil => intro o; simp
      | cons a l ih => intro o; rw [List.foldl_cons, ih]; simp
    rw [hr, List.nil_append]
    change rfEnd _ _ _ x (hpO rf cl v _ (rolesL lk v i))
    generalize rolesL lk v i = o
    have hmr : (if o.length = 0 then 0 else 1) ≤ 1 := by split <;> omega
    simp only [hpO, lpO']
    have h3 : ∀ h, frzObj h (fromB 3) (.row 1 [.t (plF cl v)] 1) = some (.row 1 [.t (plF cl v)] 1) := by intro h; simp [frzObj, avoidAll, avoid]
    have h4 : ∀ h mr, frzObj h (fromB 3) (.row 1 [.ms 1 o.length 0 o.length 1 false] mr) = some (.row 1 [.ms 1 o.length 0 o.length 1 false] mr) := by
      intro h mr; simp [frzObj, avoidAll, avoid, fromB]
    (simp only [il24c, go_sem, reduceIte, Nat.reduceEqDiff, Nat.reduceAdd, Int.reduceEq, Nat.reduceLeDiff, Nat.reduceLT, Nat.reduceBEq, Nat.reduceMul, Nat.reduceSub, Int.reduceToNat, Int.reduceLE, Int.reduceLT, Int.reduceAdd, Int.reduceSub, Int.reduceMul, Int.reduceNeg, Int.reduceDiv, Int.reduceMod, Int.reduceTDiv, Int.reduceTMod, Int.reducePow, frz_rowG, h3, h4, rowG_is, rowG_es, rowG_mr, hmr] <;> (repeat' ((first | with_reducible refine brG_intro (fun hc => ?_) (fun hc => ?_) | with_reducible refine brC_intro (fun hc => ?_) (fun hc => ?_) | ((with_reducible refine c_opsD ?_); have hc := @List.length_nil Nat) | ((with_reducible refine c_opsT ?_); have hc := @List.length_nil Nat) | ((with_reducible refine and_crit ?_ ?_); rfl; have hc := @List.length_nil Nat) | ((with_reducible refine crit_done ?_); rfl) | ((with_reducible refine mkC_go (fun _ => ?_)); have hc := @List.length_nil Nat) | ((with_reducible refine mkL_go (fun _ => ?_)); have hc := @List.length_nil Nat)) <;> (try simp only [Bool.not_eq_true', Bool.not_eq_false', Bool.not_true, Bool.not_false] at hc) <;> (try simp only [hc, go_sem, reduceIte, Nat.reduceEqDiff, Nat.reduceAdd, Int.reduceEq, Nat.reduceLeDiff, Nat.reduceLT, Nat.reduceBEq, Nat.reduceMul, Nat.reduceSub, Int.reduceToNat, Int.reduceLE, Int.reduceLT, Int.reduceAdd, Int.reduceSub, Int.reduceMul, Int.reduceNeg, Int.reduceDiv, Int.reduceMod, Int.reduceTDiv, Int.reduceTMod, Int.reducePow, frz_rowG, h3, h4, rowG_is, rowG_es, rowG_mr, hmr]))))

theorem refRoles_ans (cl : Bool) (ms : List Ms) (lk : List (Int × Int)) (v : List Vc) (i : Nat) (h1 : okS ms lk = true) (hv : v.length = ms.length) (hi : i < ms.length) :
    ans Try.prog pol 26 [spT ms lk, .sl cl 9 (v.map encV), I' (i : Nat)] = some (.sl false 1 ((rolesL lk v i).map I')) := by
  obtain ⟨hl1, hl2⟩ := okS_len h1
  have hne : ∀ l ∈ lk, l.1 ≠ l.2 := by
    intro l hl
    rw [okS, Bool.and_eq_true, Bool.and_eq_true] at h1
    exact (of_decide_eq_true (List.all_eq_true.1 h1.2.2 l hl)).2.2
  have hlp := lks_in h1 hv
  obtain ⟨w, hw⟩ : ∃ w, v[i]? = some w := ⟨v[i]'(by omega), by simp⟩
  have hgi : (v.map encV)[i]? = some (encV w) := by simp [hw]
  have hvi : vAt v i = w := by simp [vAt, hw]
  have hpi : plc v (i : Int) = ⟨w.m, w.st, i, 0⟩ := by simp [plc, hvi]
  refine ans_go 200 1 il26_eq (Nat.le_of_ble_eq_true rfl) ?_
  (simp only [il26c, go_sem, reduceIte, Nat.reduceEqDiff, Nat.reduceAdd, Int.reduceEq, Nat.reduceLeDiff, Nat.reduceLT, Nat.reduceBEq, Nat.reduceMul, Nat.reduceSub, Int.reduceToNat, Int.reduceLE, Int.reduceLT, Int.reduceAdd, Int.reduceSub, Int.reduceMul, Int.reduceNeg, Int.reduceDiv, Int.reduceMod, Int.reduceTDiv, Int.reduceTMod, Int.reducePow] <;> (repeat' ((first | with_reducible refine brG_intro (fun hc => ?_) (fun hc => ?_) | with_reducible refine brC_intro (fun hc => ?_) (fun hc => ?_) | ((with_reducible refine c_opsD ?_); have hc := @List.length_nil Nat) | ((with_reducible refine c_opsT ?_); have hc := @List.length_nil Nat) | ((with_reducible refine and_crit ?_ ?_); rfl; have hc := @List.length_nil Nat) | ((with_reducible refine crit_done ?_); rfl) | ((with_reducible refine mkC_go (fun _ => ?_)); have hc := @List.length_nil Nat) | ((with_reducible refine mkL_go (fun _ => ?_)); have hc := @List.length_nil Nat)) <;> (try simp only [Bool.not_eq_true', Bool.not_eq_false', Bool.not_true, Bool.not_false] at hc) <;> (try simp only [hc, go_sem, reduceIte, Nat.reduceEqDiff, Nat.reduceAdd, Int.reduceEq, Nat.reduceLeDiff, Nat.reduceLT, Nat.reduceBEq, Nat.reduceMul, Nat.reduceSub, Int.reduceToNat, Int.reduceLE, Int.reduceLT, Int.reduceAdd, Int.reduceSub, Int.reduceMul, Int.reduceNeg, Int.reduceDiv, Int.reduceMod, Int.reduceTDiv, Int.reduceTMod, Int.reducePow]))))
  have lp : ∀ (J : Inl) (n0 : Nat) (R : Xit → FEnv → Heap → Prop) (e : FEnv), (e 1 = .t (.sl cl 9 (v.map encV)) ∧ e 2 = .t (I' (i : Nat)) ∧ e 3 = .t (.ip [.sl false 6 (ms.map encMs), .sl false 2 (lk.map encLk)]) ∧ e 7 = .ms 0 0 0 0 1 false ∧ e 8 = .t (I' 0)) →
      (∀ e, e 7 = .ms 0 (rolesL lk v i).length 0 (rolesL lk v i).length 1 false → R (.exit 0) e [rowG 1 I' (rolesL lk v i)]) →
      wpIter 1 (some [1, 2, 3, 7, 8]) (wc Try.prog pol (ans Try.prog pol) J n0 26 il26l0) R 200 e [rowG 1 I' []] := by
    intro J n0 R e he hR
    refine loop_range lk encLk (step := fun k l o => .go (o ++ (nb1 (i : Nat) k l).map (roleOf v i))) (fin := id)
      (St := fun k o e h => (e 1 = .t (.sl cl 9 (v.map encV)) ∧ e 2 = .t (I' (i : Nat)) ∧ e 3 = .t (.ip [.sl false 6 (ms.map encMs), .sl false 2 (lk.map encLk)]) ∧ e 7 = .ms 0 o.length 0 o.length 1 false ∧ e 8 = .t (I' (k : Nat))) ∧ h = [rowG 1 I' o] ∧ o.length ≤ k)
      (Ex := fun o x e h => e 7 = .ms 0 o.length 0 o.length 1 false ∧ x = .exit 0 ∧ h = [rowG 1 I' o]) (s := []) (by omega) ?_ ?_ (by omega) ⟨he, rfl, by simp⟩ ?_
    · intro k l o e h Y R hm hi' hx hget hlt hw' ⟨hs, hh, hol⟩ hk
      subst hh
      simp only [ctlK_go] at hk
      have hl := hlp l hm
      have hn := hne l hm
      have c1 := other_ans l (i : Nat)
      have hroom : (o.length + 1) * 8 ≤ roomB := ap_room (by omega) (by omega)
      have key : ∀ (j : Int), 0 ≤ j ∧ j < (v.length : Nat) → (∀ e h, (e 1 = .t (.sl cl 9 (v.map encV)) ∧ e 2 = .t (I' (i : Nat)) ∧ e 3 = .t (.ip [.sl false 6 (ms.map encMs), .sl false 2 (lk.map encLk)]) ∧ e 7 = .ms 0 (o ++ [roleOf v i ((k : Int), j)]).length 0 (o ++ [roleOf v i ((k : Int), j)]).length 1 false ∧ e 8 = .t (I' (k + 1 : Nat))) ∧ h = [rowG 1 I' (o ++ [roleOf v i ((k : Int), j)])] ∧ (o ++ [roleOf v i ((k : Int), j)]).length ≤ k + 1 → Y e h) →
          ans Try.prog pol 41 [.agg [I' l.1, I' l.2], I' (i : Nat)] = some (.tup [I' j, B' true]) →
          wc Try.prog pol (ans Try.prog pol) J n0 26 il26l0 (itK 1 Y R) (tidyF (some [1, 2, 3, 7, 8]) e) [rowG 1 I' o] := by
        intro j hj hk c1
        obtain ⟨j, rfl⟩ := Int.eq_ofNat_of_zero_le hj.1
        obtain ⟨u, hu⟩ : ∃ u, v[j]? = some u := ⟨v[j]'(by omega), by simp⟩
        have hgj : (v.map encV)[j]? = some (encV u) := by simp [hu]
        have hpj : plc v (j : Int) = ⟨u.m, u.st, j, 0⟩ := by simp [plc, vAt, hu]
        simp only [roleOf, hvi, hpi, hpj] at hk
        have c2 := refCompare_ans ⟨w.m, w.st, i, 0⟩ ⟨u.m, u.st, j, 0⟩
        by_cases q : w.ln = k
        · have d1 : decide (w.ln = k) = true := decide_eq_true q
          rw [if_pos q] at hk
          (simp only [il26l0_go, il26l0b, go_sem, reduceIte, Nat.reduceEqDiff, Nat.reduceAdd, Int.reduceEq, Nat.reduceLeDiff, Nat.reduceLT, Nat.reduceBEq, Nat.reduceMul, Nat.reduceSub, Int.reduceToNat, Int.reduceLE, Int.reduceLT, Int.reduceAdd, Int.reduceSub, Int.reduceMul, Int.reduceNeg, Int.reduceDiv, Int.reduceMod, Int.reduceTDiv, Int.reduceTMod, Int.reducePow, hs, hget, hlt, hw', encLk_cells, c1, hgi, hgj, encV_cells, d1, hroom, rowG_is, rowG_es, rowG_mr, frz_rowG] <;> (repeat' ((first | with_reducible refine brG_intro (fun hc => ?_) (fun hc => ?_) | with_reducible refine brC_intro (fun hc => ?_) (fun hc => ?_) | ((with_reducible refine c_opsD ?_); have hc := @List.length_nil Nat) | ((with_reducible refine c_opsT ?_); have hc := @List.length_nil Nat) | ((with_reducible refine and_crit ?_ ?_); rfl; have hc := @List.length_nil Nat) | ((with_reducible refine crit_done ?_); rfl) | ((with_reducible refine mkC_go (fun _ => ?_)); have hc := @List.length_nil Nat) | ((with_reducible refine mkL_go (fun _ => ?_)); have hc := @List.length_nil Nat)) <;> (try simp only [Bool.not_eq_true', Bool.not_eq_false', Bool.not_true, Bool.not_false] at hc) <;> (try simp only [hc, go_sem, reduceIte, Nat.reduceEqDiff, Nat.reduceAdd, Int.reduceEq, Nat.reduceLeDiff, Nat.reduceLT, Nat.reduceBEq, Nat.reduceMul, Nat.reduceSub, Int.reduceToNat, Int.reduceLE, Int.reduceLT, Int.reduceAdd, Int.reduceSub, Int.reduceMul, Int.reduceNeg, Int.reduceDiv, Int.reduceMod, Int.reduceTDiv, Int.reduceTMod, Int.reducePow, hs, hget, hlt, hw', encLk_cells, c1, hgi, hgj, encV_cells, d1, hroom, rowG_is, rowG_es, rowG_mr, frz_rowG]))))
          all_goals (refine hk _ _ ⟨?_, ?_, by simp; omega⟩ <;> (try simp only [go_sem, reduceIte, Nat.reduceEqDiff, Nat.reduceAdd, Int.reduceEq, Nat.reduceLeDiff, Nat.reduceLT, Nat.reduceBEq, Nat.reduceMul, Nat.reduceSub, Int.reduceToNat, Int.reduceLE, Int.reduceLT, Int.reduceAdd, Int.reduceSub, Int.reduceMul, Int.reduceNeg, Int.reduceDiv, Int.reduceMod, Int.reduceTDiv, Int.reduceTMod, Int.reducePow, hs, hw']) <;> simp [rowG])
        · have d1 : decide (w.ln = k) = false := decide_eq_false q
          rw [if_neg q] at hk
          by_cases r : cmpV ⟨w.m, w.st, i, 0⟩ ⟨u.m, u.st, j, 0⟩ < 0
          · have d2 : decide (cmpV ⟨w.m, w.st, i, 0⟩ ⟨u.m, u.st, j, 0⟩ < 0) = true := decide_eq_true r
            rw [if_pos r] at hk
            (simp only [il26l0_go, il26l0b, go_sem, reduceIte, Nat.reduceEqDiff, Nat.reduceAdd, Int.reduceEq, Nat.reduceLeDiff, Nat.reduceLT, Nat.reduceBEq, Nat.reduceMul, Nat.reduceSub, Int.reduceToNat, Int.reduceLE, Int.reduceLT, Int.reduceAdd, Int.reduceSub, Int.reduceMul, Int.reduceNeg, Int.reduceDiv, Int.reduceMod, Int.reduceTDiv, Int.reduceTMod, Int.reducePow, hs, hget, hlt, hw', encLk_cells, c1, hgi, hgj, encV_cells, d1, c2, d2, hroom, rowG_is, rowG_es, rowG_mr, frz_rowG] <;> (repeat' ((first | with_reducible refine brG_intro (fun hc => ?_) (fun hc => ?_) | with_reducible refine brC_intro (fun hc => ?_) (fun hc => ?_) | ((with_reducible refine c_opsD ?_); have hc := @List.length_nil Nat) | ((with_reducible refine c_opsT ?_); have hc := @List.length_nil Nat) | ((with_reducible refine and_crit ?_ ?_); rfl; have hc := @List.length_nil Nat) | ((with_reducible refine crit_done ?_); rfl) | ((with_reducible refine mkC_go (fun _ => ?_)); have hc := @List.length_nil Nat) | ((with_reducible refine mkL_go (fun _ => ?_)); have hc := @List.length_nil Nat)) <;> (try simp only [Bool.not_eq_true', Bool.not_eq_false', Bool.not_true, Bool.not_false] at hc) <;> (try simp only [hc, go_sem, reduceIte, Nat.reduceEqDiff, Nat.reduceAdd, Int.reduceEq, Nat.reduceLeDiff, Nat.reduceLT, Nat.reduceBEq, Nat.reduceMul, Nat.reduceSub, Int.reduceToNat, Int.reduceLE, Int.reduceLT, Int.reduceAdd, Int.reduceSub, Int.reduceMul, Int.reduceNeg, Int.reduceDiv, Int.reduceMod, Int.reduceTDiv, Int.reduceTMod, Int.reducePow, hs, hget, hlt, hw', encLk_cells, c1, hgi, hgj, encV_cells, d1, c2, d2, hroom, rowG_is, rowG_es, rowG_mr, frz_rowG]))))
            all_goals (refine hk _ _ ⟨?_, ?_, by simp; omega⟩ <;> (try simp only [go_sem, reduceIte, Nat.reduceEqDiff, Nat.reduceAdd, Int.reduceEq, Nat.reduceLeDiff, Nat.reduceLT, Nat.reduceBEq, Nat.reduceMul, Nat.reduceSub, Int.reduceToNat, Int.reduceLE, Int.reduceLT, Int.reduceAdd, Int.reduceSub, Int.reduceMul, Int.reduceNeg, Int.reduceDiv, Int.reduceMod, Int.reduceTDiv, Int.reduceTMod, Int.reducePow, hs, hw']) <;> simp [rowG])
          · have d2 : decide (cmpV ⟨w.m, w.st, i, 0⟩ ⟨u.m, u.st, j, 0⟩ < 0) = false := decide_eq_false r
            rw [if_neg r] at hk
            (simp only [il26l0_go, il26l0b, go_sem, reduceIte, Nat.reduceEqDiff, Nat.reduceAdd, Int.reduceEq, Nat.reduceLeDiff, Nat.reduceLT, Nat.reduceBEq, Nat.reduceMul, Nat.reduceSub, Int.reduceToNat, Int.reduceLE, Int.reduceLT, Int.reduceAdd, Int.reduceSub, Int.reduceMul, Int.reduceNeg, Int.reduceDiv, Int.reduceMod, Int.reduceTDiv, Int.reduceTMod, Int.reducePow, hs, hget, hlt, hw', encLk_cells, c1, hgi, hgj, encV_cells, d1, c2, d2, hroom, rowG_is, rowG_es, rowG_mr, frz_rowG] <;> (repeat' ((first | with_reducible refine brG_intro (fun hc => ?_) (fun hc => ?_) | with_reducible refine brC_intro (fun hc => ?_) (fun hc => ?_) | ((with_reducible refine c_opsD ?_); have hc := @List.length_nil Nat) | ((with_reducible refine c_opsT ?_); have hc := @List.length_nil Nat) | ((with_reducible refine and_crit ?_ ?_); rfl; have hc := @List.length_nil Nat) | ((with_reducible refine crit_done ?_); rfl) | ((with_reducible refine mkC_go (fun _ => ?_)); have hc := @List.length_nil Nat) | ((with_reducible refine mkL_go (fun _ => ?_)); have hc := @List.length_nil Nat)) <;> (try simp only [Bool.not_eq_true', Bool.not_eq_false', Bool.not_true, Bool.not_false] at hc) <;> (try simp only [hc, go_sem, reduceIte, Nat.reduceEqDiff, Nat.reduceAdd, Int.reduceEq, Nat.reduceLeDiff, Nat.reduceLT, Nat.reduceBEq, Nat.reduceMul, Nat.reduceSub, Int.reduceToNat, Int.reduceLE, Int.reduceLT, Int.reduceAdd, Int.reduceSub, Int.reduceMul, Int.reduceNeg, Int.reduceDiv, Int.reduceMod, Int.reduceTDiv, Int.reduceTMod, Int.reducePow, hs, hget, hlt, hw', encLk_cells, c1, hgi, hgj, encV_cells, d1, c2, d2, hroom, rowG_is, rowG_es, rowG_mr, frz_rowG]))))
            all_goals (refine hk _ _ ⟨?_, ?_, by simp; omega⟩ <;> (try simp only [go_sem, reduceIte, Nat.reduceEqDiff, Nat.reduceAdd, Int.reduceEq, Nat.reduceLeDiff, Nat.reduceLT, Nat.reduceBEq, Nat.reduceMul, Nat.reduceSub, Int.reduceToNat, Int.reduceLE, Int.reduceLT, Int.reduceAdd, Int.reduceSub, Int.reduceMul, Int.reduceNeg, Int.reduceDiv, Int.reduceMod, Int.reduceTDiv, Int.reduceTMod, Int.reducePow, hs, hw']) <;> simp [rowG])
      by_cases q : l.1 = (i : Int)
      · have q2 : ¬ l.2 = (i : Int) := fun h => hn (by omega)
        rw [if_pos q, if_pos q] at c1
        refine key l.2 hl.2 ?_ c1
        simp only [nb1, if_pos q, if_neg q2, List.append_nil, List.map_cons, List.map_nil] at hk
        intro e h ⟨g1, g2, g3⟩
        exact hk e h ⟨g1, g2, g3⟩
      · rw [if_neg q, if_neg q] at c1
        by_cases q2 : l.2 = (i : Int)
        · rw [decide_eq_true q2] at c1
          refine key l.1 hl.1 ?_ c1
          simp only [nb1, if_neg q, if_pos q2, List.nil_append, List.map_cons, List.map_nil] at hk
          intro e h ⟨g1, g2, g3⟩
          exact hk e h ⟨g1, g2, g3⟩
        · rw [decide_eq_false q2] at c1
          simp only [nb1, if_neg q, if_neg q2, List.append_nil, List.map_nil] at hk
          (simp only [il26l0_go, il26l0b, go_sem, reduceIte, Nat.reduceEqDiff, Nat.reduceAdd, Int.reduceEq, Nat.reduceLeDiff, Nat.reduceLT, Nat.reduceBEq, Nat.reduceMul, Nat.reduceSub, Int.reduceToNat, Int.reduceLE, Int.reduceLT, Int.reduceAdd, Int.reduceSub, Int.reduceMul, Int.reduceNeg, Int.reduceDiv, Int.reduceMod, Int.reduceTDiv, Int.reduceTMod, Int.reducePow, hs, hget, hlt, hw', encLk_cells, c1, frz_rowG] <;> (repeat' ((first | with_reducible refine brG_intro (fun hc => ?_) (fun hc => ?_) | with_reducible refine brC_intro (fun hc => ?_) (fun hc => ?_) | ((with_reducible refine c_opsD ?_); have hc := @List.length_nil Nat) | ((with_reducible refine c_opsT ?_); have hc := @List.length_nil Nat) | ((with_reducible refine and_crit ?_ ?_); rfl; have hc := @List.length_nil Nat) | ((with_reducible refine crit_done ?_); rfl) | ((with_reducible refine mkC_go (fun _ => ?_)); have hc := @List.length_nil Nat) | ((with_reducible refine mkL_go (fun _ => ?_)); have hc := @List.length_nil Nat)) <;> (try simp only [Bool.not_eq_true', Bool.not_eq_false', Bool.not_true, Bool.not_false] at hc) <;> (try simp only [hc, go_sem, reduceIte, Nat.reduceEqDiff, Nat.reduceAdd, Int.reduceEq, Nat.reduceLeDiff, Nat.reduceLT, Nat.reduceBEq, Nat.reduceMul, Nat.reduceSub, Int.reduceToNat, Int.reduceLE, Int.reduceLT, Int.reduceAdd, Int.reduceSub, Int.reduceMul, Int.reduceNeg, Int.reduceDiv, Int.reduceMod, Int.reduceTDiv, Int.reduceTMod, Int.reducePow, hs, hget, hlt, hw', encLk_cells, c1, frz_rowG]))))
          all_goals (refine hk _ _ ⟨?_, rfl, by omega⟩; simp only [go_sem, reduceIte, Nat.reduceEqDiff, Nat.reduceAdd, Int.reduceEq, Nat.reduceLeDiff, Nat.reduceLT, Nat.reduceBEq, Nat.reduceMul, Nat.reduceSub, Int.reduceToNat, Int.reduceLE, Int.reduceLT, Int.reduceAdd, Int.reduceSub, Int.reduceMul, Int.reduceNeg, Int.reduceDiv, Int.reduceMod, Int.reduceTDiv, Int.reduceTMod, Int.reducePow, hs, hw'])
    · intro o e h Y R hlt ⟨hs, hh, hol⟩ hk
      subst hh
      (simp only [il26l0_go, il26l0b, go_sem, reduceIte, Nat.reduceEqDiff, Nat.reduceAdd, Int.reduceEq, Nat.reduceLeDiff, Nat.reduceLT, Nat.reduceBEq, Nat.reduceMul, Nat.reduceSub, Int.reduceToNat, Int.reduceLE, Int.reduceLT, Int.reduceAdd, Int.reduceSub, Int.reduceMul, Int.reduceNeg, Int.reduceDiv, Int.reduceMod, Int.reduceTDiv, Int.reduceTMod, Int.reducePow, hs, hlt, frz_rowG] <;> (repeat' ((first | with_reducible refine brG_intro (fun hc => ?_) (fun hc => ?_) | with_reducible refine brC_intro (fun hc => ?_) (fun hc => ?_) | ((with_reducible refine c_opsD ?_); have hc := @List.length_nil Nat) | ((with_reducible refine c_opsT ?_); have hc := @List.length_nil Nat) | ((with_reducible refine and_crit ?_ ?_); rfl; have hc := @List.length_nil Nat) | ((with_reducible refine crit_done ?_); rfl) | ((with_reducible refine mkC_go (fun _ => ?_)); have hc := @List.length_nil Nat) | ((with_reducible refine mkL_go (fun _ => ?_)); have hc := @List.length_nil Nat)) <;> (try simp only [Bool.not_eq_true', Bool.not_eq_false', Bool.not_true, Bool.not_false] at hc) <;> (try simp only [hc, go_sem, reduceIte, Nat.reduceEqDiff, Nat.reduceAdd, Int.reduceEq, Nat.reduceLeDiff, Nat.reduceLT, Nat.reduceBEq, Nat.reduceMul, Nat.reduceSub, Int.reduceToNat, Int.reduceLE, Int.reduceLT, Int.reduceAdd, Int.reduceSub, Int.reduceMul, Int.reduceNeg, Int.reduceDiv, Int.reduceMod, Int.reduceTDiv, Int.reduceTMod, Int.reducePow, hs, hlt, frz_rowG]))))
      all_goals (refine hk _ _ _ ⟨?_, rfl, rfl⟩; simp only [go_sem, reduceIte, Nat.reduceEqDiff, Nat.reduceAdd, Int.reduceEq, Nat.reduceLeDiff, Nat.reduceLT, Nat.reduceBEq, Nat.reduceMul, Nat.reduceSub, Int.reduceToNat, Int.reduceLE, Int.reduceLT, Int.reduceAdd, Int.reduceSub, Int.reduceMul, Int.reduceNeg, Int.reduceDiv, Int.reduceMod, Int.reduceTDiv, Int.reduceTMod, Int.reducePow, hs, id])
    · intro x e h ⟨h1, h2, h3⟩
      have hf : ∀ (r : List (Int × Int)) (k : Nat) (s : List Int), foldC (ρ := List Int) (fun k l o => Ctl.go (o ++ (nb1 (i : Nat) k l).map (roleOf v i))) id k r s = s ++ (nbs (i : Nat) k r).map (roleOf v i) := by
        intro r
        induction r with
        | nil => intro k s; simp [foldC, nbs]
        | cons l r ih => intro k s; rw [foldC_go (s' := s ++ (nb1 (i : Nat) k l).map (roleOf v i)) rfl, ih, nbs]; simp
      rw [hf, List.nil_append] at h1 h3
      subst h2 h3
      exact hR _ h1
  refine lp _ _ _ _ (by simp only [go_sem, reduceIte, Nat.reduceEqDiff, Nat.reduceAdd, Int.reduceEq, Nat.reduceLeDiff, Nat.reduceLT, Nat.reduceBEq, Nat.reduceMul, Nat.reduceSub, Int.reduceToNat, Int.reduceLE, Int.reduceLT, Int.reduceAdd, Int.reduceSub, Int.reduceMul, Int.reduceNeg, Int.reduceDiv, Int.reduceMod, Int.reduceTDiv, Int.reduceTMod, Int.reducePow]) ?_
  intro e he
  generalize rolesL lk v i = q at *
  (simp only [il26c, go_sem, reduceIte, Nat.reduceEqDiff, Nat.reduceAdd, Int.reduceEq, Nat.reduceLeDiff, Nat.reduceLT, Nat.reduceBEq, Nat.reduceMul, Nat.reduceSub, Int.reduceToNat, Int.reduceLE, Int.reduceLT, Int.reduceAdd, Int.reduceSub, Int.reduceMul, Int.reduceNeg, Int.reduceDiv, Int.reduceMod, Int.reduceTDiv, Int.reduceTMod, Int.reducePow, he, rowG_is, rowG_es, rowG_mr] <;> (repeat' ((first | with_reducible refine brG_intro (fun hc => ?_) (fun hc => ?_) | with_reducible refine brC_intro (fun hc => ?_) (fun hc => ?_) | ((with_reducible refine c_opsD ?_); have hc := @List.length_nil Nat) | ((with_reducible refine c_opsT ?_); have hc := @List.length_nil Nat) | ((with_reducible refine and_crit ?_ ?_); rfl; have hc := @List.length_nil Nat) | ((with_reducible refine crit_done ?_); rfl) | ((with_reducible refine mkC_go (fun _ => ?_)); have hc := @List.length_nil Nat) | ((with_reducible refine mkL_go (fun _ => ?_)); have hc := @List.length_nil Nat)) <;> (try simp only [Bool.not_eq_true', Bool.not_eq_false', Bool.not_true, Bool.not_false] at hc) <;> (try simp only [hc, go_sem, reduceIte, Nat.reduceEqDiff, Nat.reduceAdd, Int.reduceEq, Nat.reduceLeDiff, Nat.reduceLT, Nat.reduceBEq, Nat.reduceMul, Nat.reduceSub, Int.reduceToNat, Int.reduceLE, Int.reduceLT, Int.reduceAdd, Int.reduceSub, Int.reduceMul, Int.reduceNeg, Int.reduceDiv, Int.reduceMod, Int.reduceTDiv, Int.reduceTMod, Int.reducePow, he, rowG_is, rowG_es, rowG_mr]))))

end Go.Proofs.Ytboknhdkadcaeaa
