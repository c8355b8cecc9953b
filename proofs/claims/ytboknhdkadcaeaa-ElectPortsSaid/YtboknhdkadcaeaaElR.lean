/- The law ElectPorts. -/
import Derived.Test.YtboknhdkadcaeaaElO
namespace Go.Proofs.Ytboknhdkadcaeaa
open Go Go.Abs
set_option linter.unusedSimpArgs false
set_option linter.unusedVariables false
set_option maxRecDepth 100000
set_option maxHeartbeats 4000000

/-- How often a node below i, or node i at a link below k, is the master of link j. -/
def mcn (lk : List (Int × Int)) (v : List Vc) (i k j : Nat) : Int := (((List.range i).filter fun a => hasR lk v 2 a j).length : Nat) + (if j < k ∧ hasR lk v 2 i j = true then 1 else 0)
def mcL (lk : List (Int × Int)) (v : List Vc) (i k : Nat) : List Int := (List.range lk.length).map (mcn lk v i k)
theorem mcL_len (lk : List (Int × Int)) (v : List Vc) (i k : Nat) : (mcL lk v i k).length = lk.length := by simp [mcL]
theorem mcL_at {lk : List (Int × Int)} {v : List Vc} {i k j : Nat} (hj : j < lk.length) : (mcL lk v i k)[j]? = some (mcn lk v i k j) := by simp [mcL, List.getElem?_range hj]
theorem mcL_next (lk : List (Int × Int)) (v : List Vc) (i : Nat) : mcL lk v i lk.length = mcL lk v (i + 1) 0 := by
  apply List.map_congr_left
  intro j hj
  simp only [List.mem_range] at hj
  simp only [mcn, Nat.not_lt_zero, false_and, if_false, Int.add_zero, hj, true_and]
  rw [List.range_succ, List.filter_append, List.length_append]
  by_cases h : hasR lk v 2 i j = true
  · simp [h]
  · simp [h]
theorem mcL_skip {lk : List (Int × Int)} {v : List Vc} {i k : Nat} (h : hasR lk v 2 i k = false) : mcL lk v i (k + 1) = mcL lk v i k := by
  apply List.map_congr_left
  intro j _
  simp only [mcn]
  by_cases q : j = k
  · subst q; simp [h]
  · have : j < k + 1 ↔ j < k := by omega
    simp only [this]
theorem mcL_set {lk : List (Int × Int)} {v : List Vc} {i k : Nat} (hk : k < lk.length) (h : hasR lk v 2 i k = true) : (mcL lk v i k).set k (mcn lk v i k k + 1) = mcL lk v i (k + 1) := by
  apply List.ext_getElem?
  intro j
  by_cases hj : j < lk.length
  · rw [List.getElem?_set, mcL_at hj, mcL_at hj, mcL_len]
    by_cases q : k = j
    · subst q
      simp [mcn, h, hj]
    · rw [if_neg q]
      simp only [mcn]
      have : j < k + 1 ↔ j < k := by omega
      simp only [this]
  · rw [List.getElem?_eq_none (by rw [List.length_set, mcL_len]; omega), List.getElem?_eq_none (by rw [mcL_len]; omega)]
theorem mcn_bound (lk : List (Int × Int)) (v : List Vc) (i k j : Nat) : 0 ≤ mcn lk v i k j ∧ mcn lk v i k j ≤ i + 1 := by
  have : ((List.range i).filter fun a => hasR lk v 2 a j).length ≤ i := by
    have := List.length_filter_le (fun a => hasR lk v 2 a j) (List.range i)
    simpa using this
  unfold mcn
  split <;> omega
theorem slvN_succ (lk : List (Int × Int)) (v : List Vc) (i k : Nat) : slvN lk v i (k + 1) = slvN lk v i k + (if hasR lk v 1 i k = true then 1 else 0) := by
  rw [slvN, slvN, List.range_succ, List.filter_append, List.length_append]
  by_cases h : hasR lk v 1 i k = true <;> simp [h]
theorem slvN_le (lk : List (Int × Int)) (v : List Vc) (i k : Nat) : slvN lk v i k ≤ k := by
  have := List.length_filter_le (fun a => hasR lk v 1 i a) (List.range k)
  simpa [slvN] using this

theorem port_l0 (ms : List Ms) (lk : List (Int × Int)) (v : List Vc) (hn : Net ms lk) (hlk : lk.length ≤ 24) (hms : ms.length ≤ 12) (i : Nat) (hi : i < ms.length) (J : Inl) (n0 : Nat) (R : Xit → FEnv → Heap → Prop) (e : FEnv) (mr : Nat) (hmr : mr ≤ lk.length)
    (he : e 3 = .ref 0 1 0 0 ∧ e 4 = .t (.sl true 9 (v.map encV)) ∧ e 6 = .ms 1 lk.length 0 lk.length 1 true ∧ e 7 = .t (I' (i : Nat)) ∧ e 8 = .t (.sl false 1 ((rolesL lk v i).map I')) ∧ e 10 = .t (I' 0) ∧ e 11 = .t (I' 0) ∧ e 33 = .t (I' (ms.length : Nat)) ∧ e 34 = .t (I' (i : Nat)) ∧ e 47 = .t (.sl false 2 (lk.map encLk)) ∧ e 48 = .t (I' (lk.length : Nat)) ∧ e 49 = .t (I' 0))
    (hR : ∀ e mr, mr ≤ lk.length → (e 3 = .ref 0 1 0 0 ∧ e 4 = .t (.sl true 9 (v.map encV)) ∧ e 6 = .ms 1 lk.length 0 lk.length 1 true ∧ e 7 = .t (I' (i : Nat)) ∧ e 8 = .t (.sl false 1 ((rolesL lk v i).map I')) ∧ e 10 = .t (I' ((rolesL lk v i).length : Nat)) ∧ e 11 = .t (I' (slvN lk v i lk.length : Nat)) ∧ e 33 = .t (I' (ms.length : Nat)) ∧ e 34 = .t (I' (i : Nat))) → R (.exit 2) e [spH ms lk, .row 1 (((mcL lk v (i + 1) 0).map I').map .t) mr]) :
    wpIter 2 (some [3, 4, 6, 7, 8, 10, 11, 33, 34, 47, 48, 49]) (wc Try.prog pol (ans Try.prog pol) J n0 7 il7l0) R 100 e [spH ms lk, .row 1 (((mcL lk v i 0).map I').map .t) mr] := by
  refine loop_range lk encLk (step := fun k l (_ : Unit) => Ctl.go ()) (fin := id)
    (St := fun k _ e h => (e 3 = .ref 0 1 0 0 ∧ e 4 = .t (.sl true 9 (v.map encV)) ∧ e 6 = .ms 1 lk.length 0 lk.length 1 true ∧ e 7 = .t (I' (i : Nat)) ∧ e 8 = .t (.sl false 1 ((rolesL lk v i).map I')) ∧ e 10 = .t (I' (cnt lk i k : Nat)) ∧ e 11 = .t (I' (slvN lk v i k : Nat)) ∧ e 33 = .t (I' (ms.length : Nat)) ∧ e 34 = .t (I' (i : Nat)) ∧ e 47 = .t (.sl false 2 (lk.map encLk)) ∧ e 48 = .t (I' (lk.length : Nat)) ∧ e 49 = .t (I' (k : Nat))) ∧ ∃ mr, mr ≤ lk.length ∧ h = [spH ms lk, .row 1 (((mcL lk v i k).map I').map .t) mr])
    (Ex := fun _ y e h => (e 3 = .ref 0 1 0 0 ∧ e 4 = .t (.sl true 9 (v.map encV)) ∧ e 6 = .ms 1 lk.length 0 lk.length 1 true ∧ e 7 = .t (I' (i : Nat)) ∧ e 8 = .t (.sl false 1 ((rolesL lk v i).map I')) ∧ e 10 = .t (I' ((rolesL lk v i).length : Nat)) ∧ e 11 = .t (I' (slvN lk v i lk.length : Nat)) ∧ e 33 = .t (I' (ms.length : Nat)) ∧ e 34 = .t (I' (i : Nat))) ∧ y = .exit 2 ∧ ∃ mr, mr ≤ lk.length ∧ h = [spH ms lk, .row 1 (((mcL lk v (i + 1) 0).map I').map .t) mr]) (s := ()) (by omega) ?_ ?_ (by omega) ⟨he, mr, hmr, rfl⟩ ?_
  · intro k l _ e h Y R hm hk hx hget hlt hw ⟨hs, mr, hmr, hh⟩ hkk
    subst hh
    simp only [ctlK_go] at hkk
    obtain ⟨a, b, rfl, ha, hb, hab⟩ := hn.lks k l hx
    have hcs := cnt_succ hx i
    have hss := slvN_succ lk v i k
    have hcb := cnt_le lk i k
    have hsb := slvN_le lk v i k
    have hmb := mcn_bound lk v i k k
    have hmL := mcL_len lk v i k
    have hmg : (((mcL lk v i k).map I').map AV.t)[k]? = some (.t (I' (mcn lk v i k k))) := map_get (enc := I') (mcL_at hk)
    have hms' := map_set (enc := I') (l := mcL lk v i k) (i := k) (x := mcn lk v i k k + 1)
    -- a link of node i
    have key : ∀ (j : Nat), nb1 i k ((a : Int), (b : Int)) = [((k : Int), (j : Int))] → (a = i ∨ ¬ a = i ∧ b = i) →
        wc Try.prog pol (ans Try.prog pol) J n0 7 il7l0 (itK 2 Y R) (tidyF (some [3, 4, 6, 7, 8, 10, 11, 33, 34, 47, 48, 49]) e) [spH ms lk, .row 1 (((mcL lk v i k).map I').map .t) mr] := by
      intro j hj hend
      obtain ⟨hr, hrl⟩ := role_at hx v i hj
      rw [hj] at hcs
      simp only [List.length_cons, List.length_nil, Nat.zero_add] at hcs
      have hh : ∀ w, hasR lk v w i k = decide (roleOf v i ((k : Int), (j : Int)) = w) := by
        intro w; simp only [hasR, hx, hj, List.any_cons, List.any_nil, Bool.or_false]
      have e1 : decide ((a : Int) = (i : Int)) = decide (a = i) := by congr 1; simp only [eq_iff_iff]; omega
      have e2 : decide ((b : Int) = (i : Int)) = decide (b = i) := by congr 1; simp only [eq_iff_iff]; omega
      have dn : decide ((((rolesL lk v i).length : Nat) : Int) ≤ (cnt lk i k : Nat)) = false := decide_eq_false (by omega)
      have v1 : IntKind.i64.wrap (((cnt lk i k : Nat) : Int) + 1) = ((cnt lk i (k + 1) : Nat) : Int) := by rw [wrap_i64 (by omega) (by omega), hcs]; rfl
      have v2 : IntKind.i64.wrap (mcn lk v i k k + 1) = mcn lk v i k k + 1 := wrap_i64 (by omega) (by omega)
      have v3 : IntKind.i64.wrap (((slvN lk v i k : Nat) : Int) + 1) = ((slvN lk v i k + 1 : Nat) : Int) := by rw [wrap_i64 (by omega) (by omega)]; rfl
      have h2 := hh 2
      have h1 := hh 1
      generalize hrole : roleOf v i ((k : Int), (j : Int)) = w at *
      have hwv : w = 1 ∨ w = 2 ∨ w = 3 := by rw [← hrole, roleOf]; split; (exact .inl rfl); split; (exact .inr (.inl rfl)); exact .inr (.inr rfl)
      have fin : ∀ M mr, mr ≤ lk.length → M = mcL lk v i (k + 1) → ∀ e, (e 3 = .ref 0 1 0 0 ∧ e 4 = .t (.sl true 9 (v.map encV)) ∧ e 6 = .ms 1 lk.length 0 lk.length 1 true ∧ e 7 = .t (I' (i : Nat)) ∧ e 8 = .t (.sl false 1 ((rolesL lk v i).map I')) ∧ e 10 = .t (I' (cnt lk i (k + 1) : Nat)) ∧ e 11 = .t (I' (slvN lk v i (k + 1) : Nat)) ∧ e 33 = .t (I' (ms.length : Nat)) ∧ e 34 = .t (I' (i : Nat)) ∧ e 47 = .t (.sl false 2 (lk.map encLk)) ∧ e 48 = .t (I' (lk.length : Nat)) ∧ e 49 = .t (I' (k + 1 : Nat))) → Y e [spH ms lk, .row 1 ((M.map I').map .t) mr] := by
        intro M mr hmr hM e he
        subst hM
        exact hkk e _ ⟨he, mr, hmr, rfl⟩
      clear hkk
      rcases hend with q | ⟨q, q'⟩
      · have f1 : decide ((a : Int) = (i : Int)) = true := decide_eq_true (by omega)
        rcases hwv with rfl | rfl | rfl
        · have hsv : slvN lk v i (k + 1) = slvN lk v i k + 1 := by rw [hss, if_pos (by rw [h1]; rfl)]
          have hM : mcL lk v i k = mcL lk v i (k + 1) := (mcL_skip (by rw [h2]; rfl)).symm
          rw [← hsv] at v3
          (simp only [il7l0_go, il7l0b, go_sem, reduceIte, Nat.reduceEqDiff, Nat.reduceAdd, Int.reduceEq, Nat.reduceLeDiff, Nat.reduceLT, Nat.reduceBEq, Nat.reduceMul, Nat.reduceSub, Int.reduceToNat, Int.reduceLE, Int.reduceLT, Int.reduceAdd, Int.reduceSub, Int.reduceMul, Int.reduceNeg, Int.reduceDiv, Int.reduceMod, Int.reduceTDiv, Int.reduceTMod, Int.reducePow, hs, hget, hlt, hw, encLk_cells, f1, hr, dn, v1, v3, frz_rowM] <;> (repeat' ((first | with_reducible refine brG_intro (fun hc => ?_) (fun hc => ?_) | with_reducible refine brC_intro (fun hc => ?_) (fun hc => ?_) | ((with_reducible refine c_opsD ?_); have hc := @List.length_nil Nat) | ((with_reducible refine c_opsT ?_); have hc := @List.length_nil Nat) | ((with_reducible refine and_crit ?_ ?_); rfl; have hc := @List.length_nil Nat) | ((with_reducible refine crit_done ?_); rfl) | ((with_reducible refine mkC_go (fun _ => ?_)); have hc := @List.length_nil Nat) | ((with_reducible refine mkL_go (fun _ => ?_)); have hc := @List.length_nil Nat)) <;> (try simp only [Bool.not_eq_true', Bool.not_eq_false', Bool.not_true, Bool.not_false] at hc) <;> (try simp only [hc, go_sem, reduceIte, Nat.reduceEqDiff, Nat.reduceAdd, Int.reduceEq, Nat.reduceLeDiff, Nat.reduceLT, Nat.reduceBEq, Nat.reduceMul, Nat.reduceSub, Int.reduceToNat, Int.reduceLE, Int.reduceLT, Int.reduceAdd, Int.reduceSub, Int.reduceMul, Int.reduceNeg, Int.reduceDiv, Int.reduceMod, Int.reduceTDiv, Int.reduceTMod, Int.reducePow, hs, hget, hlt, hw, encLk_cells, f1, hr, dn, v1, v3, frz_rowM]))))
          all_goals (refine fin _ mr hmr hM _ ?_; simp only [go_sem, reduceIte, Nat.reduceEqDiff, Nat.reduceAdd, Int.reduceEq, Nat.reduceLeDiff, Nat.reduceLT, Nat.reduceBEq, Nat.reduceMul, Nat.reduceSub, Int.reduceToNat, Int.reduceLE, Int.reduceLT, Int.reduceAdd, Int.reduceSub, Int.reduceMul, Int.reduceNeg, Int.reduceDiv, Int.reduceMod, Int.reduceTDiv, Int.reduceTMod, Int.reducePow, hs, hw])
        · have hsv : slvN lk v i k = slvN lk v i (k + 1) := by rw [hss, if_neg (by rw [h1]; decide)]; rfl
          have hM : (mcL lk v i k).set k (mcn lk v i k k + 1) = mcL lk v i (k + 1) := mcL_set hk (by rw [h2]; rfl)
          rw [hM] at hms'
          (simp only [il7l0_go, il7l0b, go_sem, reduceIte, Nat.reduceEqDiff, Nat.reduceAdd, Int.reduceEq, Nat.reduceLeDiff, Nat.reduceLT, Nat.reduceBEq, Nat.reduceMul, Nat.reduceSub, Int.reduceToNat, Int.reduceLE, Int.reduceLT, Int.reduceAdd, Int.reduceSub, Int.reduceMul, Int.reduceNeg, Int.reduceDiv, Int.reduceMod, Int.reduceTDiv, Int.reduceTMod, Int.reducePow, hs, hget, hlt, hw, encLk_cells, f1, hr, dn, v1, v2, hk, hmr, hmL, hmg, hms', frz_rowM] <;> (repeat' ((first | with_reducible refine brG_intro (fun hc => ?_) (fun hc => ?_) | with_reducible refine brC_intro (fun hc => ?_) (fun hc => ?_) | ((with_reducible refine c_opsD ?_); have hc := @List.length_nil Nat) | ((with_reducible refine c_opsT ?_); have hc := @List.length_nil Nat) | ((with_reducible refine and_crit ?_ ?_); rfl; have hc := @List.length_nil Nat) | ((with_reducible refine crit_done ?_); rfl) | ((with_reducible refine mkC_go (fun _ => ?_)); have hc := @List.length_nil Nat) | ((with_reducible refine mkL_go (fun _ => ?_)); have hc := @List.length_nil Nat)) <;> (try simp only [Bool.not_eq_true', Bool.not_eq_false', Bool.not_true, Bool.not_false] at hc) <;> (try simp only [hc, go_sem, reduceIte, Nat.reduceEqDiff, Nat.reduceAdd, Int.reduceEq, Nat.reduceLeDiff, Nat.reduceLT, Nat.reduceBEq, Nat.reduceMul, Nat.reduceSub, Int.reduceToNat, Int.reduceLE, Int.reduceLT, Int.reduceAdd, Int.reduceSub, Int.reduceMul, Int.reduceNeg, Int.reduceDiv, Int.reduceMod, Int.reduceTDiv, Int.reduceTMod, Int.reducePow, hs, hget, hlt, hw, encLk_cells, f1, hr, dn, v1, v2, hk, hmr, hmL, hmg, hms', frz_rowM]))))
          all_goals (refine fin _ lk.length (Nat.le_refl _) rfl _ ?_; simp only [go_sem, reduceIte, Nat.reduceEqDiff, Nat.reduceAdd, Int.reduceEq, Nat.reduceLeDiff, Nat.reduceLT, Nat.reduceBEq, Nat.reduceMul, Nat.reduceSub, Int.reduceToNat, Int.reduceLE, Int.reduceLT, Int.reduceAdd, Int.reduceSub, Int.reduceMul, Int.reduceNeg, Int.reduceDiv, Int.reduceMod, Int.reduceTDiv, Int.reduceTMod, Int.reducePow, hs, hw, hsv])
        · have hsv : slvN lk v i k = slvN lk v i (k + 1) := by rw [hss, if_neg (by rw [h1]; decide)]; rfl
          have hM : mcL lk v i k = mcL lk v i (k + 1) := (mcL_skip (by rw [h2]; rfl)).symm
          (simp only [il7l0_go, il7l0b, go_sem, reduceIte, Nat.reduceEqDiff, Nat.reduceAdd, Int.reduceEq, Nat.reduceLeDiff, Nat.reduceLT, Nat.reduceBEq, Nat.reduceMul, Nat.reduceSub, Int.reduceToNat, Int.reduceLE, Int.reduceLT, Int.reduceAdd, Int.reduceSub, Int.reduceMul, Int.reduceNeg, Int.reduceDiv, Int.reduceMod, Int.reduceTDiv, Int.reduceTMod, Int.reducePow, hs, hget, hlt, hw, encLk_cells, f1, hr, dn, v1, frz_rowM] <;> (repeat' ((first | with_reducible refine brG_intro (fun hc => ?_) (fun hc => ?_) | with_reducible refine brC_intro (fun hc => ?_) (fun hc => ?_) | ((with_reducible refine c_opsD ?_); have hc := @List.length_nil Nat) | ((with_reducible refine c_opsT ?_); have hc := @List.length_nil Nat) | ((with_reducible refine and_crit ?_ ?_); rfl; have hc := @List.length_nil Nat) | ((with_reducible refine crit_done ?_); rfl) | ((with_reducible refine mkC_go (fun _ => ?_)); have hc := @List.length_nil Nat) | ((with_reducible refine mkL_go (fun _ => ?_)); have hc := @List.length_nil Nat)) <;> (try simp only [Bool.not_eq_true', Bool.not_eq_false', Bool.not_true, Bool.not_false] at hc) <;> (try simp only [hc, go_sem, reduceIte, Nat.reduceEqDiff, Nat.reduceAdd, Int.reduceEq, Nat.reduceLeDiff, Nat.reduceLT, Nat.reduceBEq, Nat.reduceMul, Nat.reduceSub, Int.reduceToNat, Int.reduceLE, Int.reduceLT, Int.reduceAdd, Int.reduceSub, Int.reduceMul, Int.reduceNeg, Int.reduceDiv, Int.reduceMod, Int.reduceTDiv, Int.reduceTMod, Int.reducePow, hs, hget, hlt, hw, encLk_cells, f1, hr, dn, v1, frz_rowM]))))
          all_goals (refine fin _ mr hmr hM _ ?_; simp only [go_sem, reduceIte, Nat.reduceEqDiff, Nat.reduceAdd, Int.reduceEq, Nat.reduceLeDiff, Nat.reduceLT, Nat.reduceBEq, Nat.reduceMul, Nat.reduceSub, Int.reduceToNat, Int.reduceLE, Int.reduceLT, Int.reduceAdd, Int.reduceSub, Int.reduceMul, Int.reduceNeg, Int.reduceDiv, Int.reduceMod, Int.reduceTDiv, Int.reduceTMod, Int.reducePow, hs, hw, hsv])
      · have f1 : decide ((a : Int) = (i : Int)) = false := decide_eq_false (by omega)
        have f2 : decide ((b : Int) = (i : Int)) = true := decide_eq_true (by omega)
        rcases hwv with rfl | rfl | rfl
        · have hsv : slvN lk v i (k + 1) = slvN lk v i k + 1 := by rw [hss, if_pos (by rw [h1]; rfl)]
          have hM : mcL lk v i k = mcL lk v i (k + 1) := (mcL_skip (by rw [h2]; rfl)).symm
          rw [← hsv] at v3
          (simp only [il7l0_go, il7l0b, go_sem, reduceIte, Nat.reduceEqDiff, Nat.reduceAdd, Int.reduceEq, Nat.reduceLeDiff, Nat.reduceLT, Nat.reduceBEq, Nat.reduceMul, Nat.reduceSub, Int.reduceToNat, Int.reduceLE, Int.reduceLT, Int.reduceAdd, Int.reduceSub, Int.reduceMul, Int.reduceNeg, Int.reduceDiv, Int.reduceMod, Int.reduceTDiv, Int.reduceTMod, Int.reducePow, hs, hget, hlt, hw, encLk_cells, f1, f2, hr, dn, v1, v3, frz_rowM] <;> (repeat' ((first | with_reducible refine brG_intro (fun hc => ?_) (fun hc => ?_) | with_reducible refine brC_intro (fun hc => ?_) (fun hc => ?_) | ((with_reducible refine c_opsD ?_); have hc := @List.length_nil Nat) | ((with_reducible refine c_opsT ?_); have hc := @List.length_nil Nat) | ((with_reducible refine and_crit ?_ ?_); rfl; have hc := @List.length_nil Nat) | ((with_reducible refine crit_done ?_); rfl) | ((with_reducible refine mkC_go (fun _ => ?_)); have hc := @List.length_nil Nat) | ((with_reducible refine mkL_go (fun _ => ?_)); have hc := @List.length_nil Nat)) <;> (try simp only [Bool.not_eq_true', Bool.not_eq_false', Bool.not_true, Bool.not_false] at hc) <;> (try simp only [hc, go_sem, reduceIte, Nat.reduceEqDiff, Nat.reduceAdd, Int.reduceEq, Nat.reduceLeDiff, Nat.reduceLT, Nat.reduceBEq, Nat.reduceMul, Nat.reduceSub, Int.reduceToNat, Int.reduceLE, Int.reduceLT, Int.reduceAdd, Int.reduceSub, Int.reduceMul, Int.reduceNeg, Int.reduceDiv, Int.reduceMod, Int.reduceTDiv, Int.reduceTMod, Int.reducePow, hs, hget, hlt, hw, encLk_cells, f1, f2, hr, dn, v1, v3, frz_rowM]))))
          all_goals (refine fin _ mr hmr hM _ ?_; simp only [go_sem, reduceIte, Nat.reduceEqDiff, Nat.reduceAdd, Int.reduceEq, Nat.reduceLeDiff, Nat.reduceLT, Nat.reduceBEq, Nat.reduceMul, Nat.reduceSub, Int.reduceToNat, Int.reduceLE, Int.reduceLT, Int.reduceAdd, Int.reduceSub, Int.reduceMul, Int.reduceNeg, Int.reduceDiv, Int.reduceMod, Int.reduceTDiv, Int.reduceTMod, Int.reducePow, hs, hw])
        · have hsv : slvN lk v i k = slvN lk v i (k + 1) := by rw [hss, if_neg (by rw [h1]; decide)]; rfl
          have hM : (mcL lk v i k).set k (mcn lk v i k k + 1) = mcL lk v i (k + 1) := mcL_set hk (by rw [h2]; rfl)
          rw [hM] at hms'
          (simp only [il7l0_go, il7l0b, go_sem, reduceIte, Nat.reduceEqDiff, Nat.reduceAdd, Int.reduceEq, Nat.reduceLeDiff, Nat.reduceLT, Nat.reduceBEq, Nat.reduceMul, Nat.reduceSub, Int.reduceToNat, Int.reduceLE, Int.reduceLT, Int.reduceAdd, Int.reduceSub, Int.reduceMul, Int.reduceNeg, Int.reduceDiv, Int.reduceMod, Int.reduceTDiv, Int.reduceTMod, Int.reducePow, hs, hget, hlt, hw, encLk_cells, f1, f2, hr, dn, v1, v2, hk, hmr, hmL, hmg, hms', frz_rowM] <;> (repeat' ((first | with_reducible refine brG_intro (fun hc => ?_) (fun hc => ?_) | with_reducible refine brC_intro (fun hc => ?_) (fun hc => ?_) | ((with_reducible refine c_opsD ?_); have hc := @List.length_nil Nat) | ((with_reducible refine c_opsT ?_); have hc := @List.length_nil Nat) | ((with_reducible refine and_crit ?_ ?_); rfl; have hc := @List.length_nil Nat) | ((with_reducible refine crit_done ?_); rfl) | ((with_reducible refine mkC_go (fun _ => ?_)); have hc := @List.length_nil Nat) | ((with_reducible refine mkL_go (fun _ => ?_)); have hc := @List.length_nil Nat)) <;> (try simp only [Bool.not_eq_true', Bool.not_eq_false', Bool.not_true, Bool.not_false] at hc) <;> (try simp only [hc, go_sem, reduceIte, Nat.reduceEqDiff, Nat.reduceAdd, Int.reduceEq, Nat.reduceLeDiff, Nat.reduceLT, Nat.reduceBEq, Nat.reduceMul, Nat.reduceSub, Int.reduceToNat, Int.reduceLE, Int.reduceLT, Int.reduceAdd, Int.reduceSub, Int.reduceMul, Int.reduceNeg, Int.reduceDiv, Int.reduceMod, Int.reduceTDiv, Int.reduceTMod, Int.reducePow, hs, hget, hlt, hw, encLk_cells, f1, f2, hr, dn, v1, v2, hk, hmr, hmL, hmg, hms', frz_rowM]))))
          all_goals (refine fin _ lk.length (Nat.le_refl _) rfl _ ?_; simp only [go_sem, reduceIte, Nat.reduceEqDiff, Nat.reduceAdd, Int.reduceEq, Nat.reduceLeDiff, Nat.reduceLT, Nat.reduceBEq, Nat.reduceMul, Nat.reduceSub, Int.reduceToNat, Int.reduceLE, Int.reduceLT, Int.reduceAdd, Int.reduceSub, Int.reduceMul, Int.reduceNeg, Int.reduceDiv, Int.reduceMod, Int.reduceTDiv, Int.reduceTMod, Int.reducePow, hs, hw, hsv])
        · have hsv : slvN lk v i k = slvN lk v i (k + 1) := by rw [hss, if_neg (by rw [h1]; decide)]; rfl
          have hM : mcL lk v i k = mcL lk v i (k + 1) := (mcL_skip (by rw [h2]; rfl)).symm
          (simp only [il7l0_go, il7l0b, go_sem, reduceIte, Nat.reduceEqDiff, Nat.reduceAdd, Int.reduceEq, Nat.reduceLeDiff, Nat.reduceLT, Nat.reduceBEq, Nat.reduceMul, Nat.reduceSub, Int.reduceToNat, Int.reduceLE, Int.reduceLT, Int.reduceAdd, Int.reduceSub, Int.reduceMul, Int.reduceNeg, Int.reduceDiv, Int.reduceMod, Int.reduceTDiv, Int.reduceTMod, Int.reducePow, hs, hget, hlt, hw, encLk_cells, f1, f2, hr, dn, v1, frz_rowM] <;> (repeat' ((first | with_reducible refine brG_intro (fun hc => ?_) (fun hc => ?_) | with_reducible refine brC_intro (fun hc => ?_) (fun hc => ?_) | ((with_reducible refine c_opsD ?_); have hc := @List.length_nil Nat) | ((with_reducible refine c_opsT ?_); have hc := @List.length_nil Nat) | ((with_reducible refine and_crit ?_ ?_); rfl; have hc := @List.length_nil Nat) | ((with_reducible refine crit_done ?_); rfl) | ((with_reducible refine mkC_go (fun _ => ?_)); have hc := @List.length_nil Nat) | ((with_reducible refine mkL_go (fun _ => ?_)); have hc := @List.length_nil Nat)) <;> (try simp only [Bool.not_eq_true', Bool.not_eq_false', Bool.not_true, Bool.not_false] at hc) <;> (try simp only [hc, go_sem, reduceIte, Nat.reduceEqDiff, Nat.reduceAdd, Int.reduceEq, Nat.reduceLeDiff, Nat.reduceLT, Nat.reduceBEq, Nat.reduceMul, Nat.reduceSub, Int.reduceToNat, Int.reduceLE, Int.reduceLT, Int.reduceAdd, Int.reduceSub, Int.reduceMul, Int.reduceNeg, Int.reduceDiv, Int.reduceMod, Int.reduceTDiv, Int.reduceTMod, Int.reducePow, hs, hget, hlt, hw, encLk_cells, f1, f2, hr, dn, v1, frz_rowM]))))
          all_goals (refine fin _ mr hmr hM _ ?_; simp only [go_sem, reduceIte, Nat.reduceEqDiff, Nat.reduceAdd, Int.reduceEq, Nat.reduceLeDiff, Nat.reduceLT, Nat.reduceBEq, Nat.reduceMul, Nat.reduceSub, Int.reduceToNat, Int.reduceLE, Int.reduceLT, Int.reduceAdd, Int.reduceSub, Int.reduceMul, Int.reduceNeg, Int.reduceDiv, Int.reduceMod, Int.reduceTDiv, Int.reduceTMod, Int.reducePow, hs, hw, hsv])
    by_cases q : a = i
    · subst q
      refine key b ?_ (.inl rfl)
      have : ¬ ((b : Int) = (a : Int)) := by omega
      simp [nb1, this]
    · by_cases q' : b = i
      · subst q'
        refine key a ?_ (.inr ⟨q, rfl⟩)
        have : ¬ ((a : Int) = (b : Int)) := by omega
        simp [nb1, this]
      · have f1 : decide ((a : Int) = (i : Int)) = false := decide_eq_false (by omega)
        have f2 : decide ((b : Int) = (i : Int)) = false := decide_eq_false (by omega)
        have hnb : nb1 i k ((a : Int), (b : Int)) = [] := by
          have : ¬ ((b : Int) = (i : Int)) := by omega
          have : ¬ ((a : Int) = (i : Int)) := by omega
          simp [nb1, *]
        have hh : ∀ w, hasR lk v w i k = false := by intro w; simp only [hasR, hx, hnb, List.any_nil]
        have hcs' : cnt lk i k = cnt lk i (k + 1) := by rw [hcs, hnb]; rfl
        have hsv : slvN lk v i k = slvN lk v i (k + 1) := by rw [hss, if_neg (by rw [hh]; decide)]; rfl
        have hM : mcL lk v i k = mcL lk v i (k + 1) := (mcL_skip (hh 2)).symm
        (simp only [il7l0_go, il7l0b, go_sem, reduceIte, Nat.reduceEqDiff, Nat.reduceAdd, Int.reduceEq, Nat.reduceLeDiff, Nat.reduceLT, Nat.reduceBEq, Nat.reduceMul, Nat.reduceSub, Int.reduceToNat, Int.reduceLE, Int.reduceLT, Int.reduceAdd, Int.reduceSub, Int.reduceMul, Int.reduceNeg, Int.reduceDiv, Int.reduceMod, Int.reduceTDiv, Int.reduceTMod, Int.reducePow, hs, hget, hlt, hw, encLk_cells, f1, f2, frz_rowM] <;> (repeat' ((first | with_reducible refine brG_intro (fun hc => ?_) (fun hc => ?_) | with_reducible refine brC_intro (fun hc => ?_) (fun hc => ?_) | ((with_reducible refine c_opsD ?_); have hc := @List.length_nil Nat) | ((with_reducible refine c_opsT ?_); have hc := @List.length_nil Nat) | ((with_reducible refine and_crit ?_ ?_); rfl; have hc := @List.length_nil Nat) | ((with_reducible refine crit_done ?_); rfl) | ((with_reducible refine mkC_go (fun _ => ?_)); have hc := @List.length_nil Nat) | ((with_reducible refine mkL_go (fun _ => ?_)); have hc := @List.length_nil Nat)) <;> (try simp only [Bool.not_eq_true', Bool.not_eq_false', Bool.not_true, Bool.not_false] at hc) <;> (try simp only [hc, go_sem, reduceIte, Nat.reduceEqDiff, Nat.reduceAdd, Int.reduceEq, Nat.reduceLeDiff, Nat.reduceLT, Nat.reduceBEq, Nat.reduceMul, Nat.reduceSub, Int.reduceToNat, Int.reduceLE, Int.reduceLT, Int.reduceAdd, Int.reduceSub, Int.reduceMul, Int.reduceNeg, Int.reduceDiv, Int.reduceMod, Int.reduceTDiv, Int.reduceTMod, Int.reducePow, hs, hget, hlt, hw, encLk_cells, f1, f2, frz_rowM]))))
        all_goals (refine hkk _ _ ⟨?_, mr, hmr, by rw [hM]⟩; simp only [go_sem, reduceIte, Nat.reduceEqDiff, Nat.reduceAdd, Int.reduceEq, Nat.reduceLeDiff, Nat.reduceLT, Nat.reduceBEq, Nat.reduceMul, Nat.reduceSub, Int.reduceToNat, Int.reduceLE, Int.reduceLT, Int.reduceAdd, Int.reduceSub, Int.reduceMul, Int.reduceNeg, Int.reduceDiv, Int.reduceMod, Int.reduceTDiv, Int.reduceTMod, Int.reducePow, hs, hw, hsv, hcs'])
  · intro _ e h Y R hlt ⟨hs, mr, hmr, hh⟩ hk
    subst hh
    have hc : cnt lk i lk.length = (rolesL lk v i).length := by rw [cnt, List.take_length, rolesL, List.length_map]
    have hM := mcL_next lk v i
    rw [hc] at hs
    (simp only [il7l0_go, il7l0b, go_sem, reduceIte, Nat.reduceEqDiff, Nat.reduceAdd, Int.reduceEq, Nat.reduceLeDiff, Nat.reduceLT, Nat.reduceBEq, Nat.reduceMul, Nat.reduceSub, Int.reduceToNat, Int.reduceLE, Int.reduceLT, Int.reduceAdd, Int.reduceSub, Int.reduceMul, Int.reduceNeg, Int.reduceDiv, Int.reduceMod, Int.reduceTDiv, Int.reduceTMod, Int.reducePow, hs, hlt, frz_rowM] <;> (repeat' ((first | with_reducible refine brG_intro (fun hc => ?_) (fun hc => ?_) | with_reducible refine brC_intro (fun hc => ?_) (fun hc => ?_) | ((with_reducible refine c_opsD ?_); have hc := @List.length_nil Nat) | ((with_reducible refine c_opsT ?_); have hc := @List.length_nil Nat) | ((with_reducible refine and_crit ?_ ?_); rfl; have hc := @List.length_nil Nat) | ((with_reducible refine crit_done ?_); rfl) | ((with_reducible refine mkC_go (fun _ => ?_)); have hc := @List.length_nil Nat) | ((with_reducible refine mkL_go (fun _ => ?_)); have hc := @List.length_nil Nat)) <;> (try simp only [Bool.not_eq_true', Bool.not_eq_false', Bool.not_true, Bool.not_false] at hc) <;> (try simp only [hc, go_sem, reduceIte, Nat.reduceEqDiff, Nat.reduceAdd, Int.reduceEq, Nat.reduceLeDiff, Nat.reduceLT, Nat.reduceBEq, Nat.reduceMul, Nat.reduceSub, Int.reduceToNat, Int.reduceLE, Int.reduceLT, Int.reduceAdd, Int.reduceSub, Int.reduceMul, Int.reduceNeg, Int.reduceDiv, Int.reduceMod, Int.reduceTDiv, Int.reduceTMod, Int.reducePow, hs, hlt, frz_rowM]))))
    all_goals (refine hk _ _ _ ⟨?_, rfl, mr, hmr, by rw [hM]⟩; simp only [go_sem, reduceIte, Nat.reduceEqDiff, Nat.reduceAdd, Int.reduceEq, Nat.reduceLeDiff, Nat.reduceLT, Nat.reduceBEq, Nat.reduceMul, Nat.reduceSub, Int.reduceToNat, Int.reduceLE, Int.reduceLT, Int.reduceAdd, Int.reduceSub, Int.reduceMul, Int.reduceNeg, Int.reduceDiv, Int.reduceMod, Int.reduceTDiv, Int.reduceTMod, Int.reducePow, hs])
  · intro y e h ⟨h1, h2, mr, hmr, h3⟩
    subst h2 h3
    exact hR _ mr hmr h1

theorem electPorts_ans (nd : Int) (rk : List Int) (ls : List (Int × Int)) (rev : Bool) (hnd : 0 ≤ nd ∧ nd < 256) (hrk : ∀ x ∈ rk, 0 ≤ x ∧ x < 256) (hls : ∀ x ∈ ls, (0 ≤ x.1 ∧ x.1 < 256) ∧ 0 ≤ x.2 ∧ x.2 < 256) (hlr : rk.length < 9223372036854775808) (hll : ls.length < 9223372036854775808) :
    ans Try.prog pol 7 [.agg [U8 nd, .sl false 1 (rk.map U8), .sl false 2 (ls.map encU), B rev]] = some (B true) := by
  have c1 := spread_ans nd rk ls rev hnd hrk hls hlr hll
  have hok := draft_ok (ls := ls) (rev := rev) hnd.1 hrk
  generalize dMs rev rk (1 + nd % 12).toNat = ms at c1 hok
  generalize dLs (1 + nd % 12) ls = lk at c1 hok
  obtain ⟨hl1, hl2⟩ := okS_len hok
  have hn := net_of hok
  have c2 := Elect_ok ms lk hok
  have hf : ∀ i, i < ms.length → Fin' ms lk i (vAt (roundsL ms lk 12 (ownL ms)) i) := fun i hi => elect_fin hn hi
  have hv : (roundsL ms lk 12 (ownL ms)).length = ms.length := rounds_len (by simp [ownL]) 12
  have hov := okVs_elect hok 12
  generalize roundsL ms lk 12 (ownL ms) = v at c2 hf hv hov
  have hvi : ∀ i, i < ms.length → v[i]? = some (vAt v i) := fun i hi => by simp [vAt, hv, hi]
  have hroom : 8 * lk.length ≤ roomB := by rw [Nat.mul_comm]; exact ap_room (by omega) (by omega)
  have hbig : lk.length ≤ 9223372036854775807 := by omega
  refine ans_go 100 1 il7_eq (Nat.le_of_ble_eq_true rfl) ?_
  (simp only [il7c, go_sem, reduceIte, Nat.reduceEqDiff, Nat.reduceAdd, Int.reduceEq, Nat.reduceLeDiff, Nat.reduceLT, Nat.reduceBEq, Nat.reduceMul, Nat.reduceSub, Int.reduceToNat, Int.reduceLE, Int.reduceLT, Int.reduceAdd, Int.reduceSub, Int.reduceMul, Int.reduceNeg, Int.reduceDiv, Int.reduceMod, Int.reduceTDiv, Int.reduceTMod, Int.reducePow, works_ans, c1, c2, hroom, hbig] <;> (repeat' ((first | with_reducible refine brG_intro (fun hc => ?_) (fun hc => ?_) | with_reducible refine brC_intro (fun hc => ?_) (fun hc => ?_) | ((with_reducible refine c_opsD ?_); have hc := @List.length_nil Nat) | ((with_reducible refine c_opsT ?_); have hc := @List.length_nil Nat) | ((with_reducible refine and_crit ?_ ?_); rfl; have hc := @List.length_nil Nat) | ((with_reducible refine crit_done ?_); rfl) | ((with_reducible refine mkC_go (fun _ => ?_)); have hc := @List.length_nil Nat) | ((with_reducible refine mkL_go (fun _ => ?_)); have hc := @List.length_nil Nat)) <;> (try simp only [Bool.not_eq_true', Bool.not_eq_false', Bool.not_true, Bool.not_false] at hc) <;> (try simp only [hc, go_sem, reduceIte, Nat.reduceEqDiff, Nat.reduceAdd, Int.reduceEq, Nat.reduceLeDiff, Nat.reduceLT, Nat.reduceBEq, Nat.reduceMul, Nat.reduceSub, Int.reduceToNat, Int.reduceLE, Int.reduceLT, Int.reduceAdd, Int.reduceSub, Int.reduceMul, Int.reduceNeg, Int.reduceDiv, Int.reduceMod, Int.reduceTDiv, Int.reduceTMod, Int.reducePow, works_ans, c1, c2, hroom, hbig]))))
  refine loop_upto ms.length (step := fun i (_ : Unit) => Ctl.go ()) (fin := id)
    (St := fun i _ e h => (e 3 = .ref 0 1 0 0 ∧ e 4 = .t (.sl true 9 (v.map encV)) ∧ e 6 = .ms 1 lk.length 0 lk.length 1 true ∧ e 33 = .t (I' (ms.length : Nat)) ∧ e 34 = .t (I' (i : Nat))) ∧ ∃ mr, mr ≤ lk.length ∧ h = [spH ms lk, .row 1 (((mcL lk v i 0).map I').map .t) mr])
    (Ex := fun _ y e h => e 6 = .ms 1 lk.length 0 lk.length 1 true ∧ y = .exit 0 ∧ ∃ mr, mr ≤ lk.length ∧ h = [spH ms lk, .row 1 (((mcL lk v ms.length 0).map I').map .t) mr]) (s := ()) (by omega) ?_ ?_ (by omega) ?_ ?_
  · intro i _ e h Y R hi hlt hw ⟨hs, mr, hmr, hh⟩ hk
    subst hh
    simp only [ctlK_go] at hk
    have k1 := Roles_ok true ms lk v i hok hov hi
    have k2 := one_slave hn hf hi
    have hg : (v.map encV)[i]? = some (encV (vAt v i)) := by rw [List.getElem?_map, hvi i hi]; rfl
    generalize vAt v i = x at *
    (simp only [il7l1_go, il7l1b, go_sem, reduceIte, Nat.reduceEqDiff, Nat.reduceAdd, Int.reduceEq, Nat.reduceLeDiff, Nat.reduceLT, Nat.reduceBEq, Nat.reduceMul, Nat.reduceSub, Int.reduceToNat, Int.reduceLE, Int.reduceLT, Int.reduceAdd, Int.reduceSub, Int.reduceMul, Int.reduceNeg, Int.reduceDiv, Int.reduceMod, Int.reduceTDiv, Int.reduceTMod, Int.reducePow, hs, hlt, k1] <;> (repeat' ((first | with_reducible refine brG_intro (fun hc => ?_) (fun hc => ?_) | with_reducible refine brC_intro (fun hc => ?_) (fun hc => ?_) | ((with_reducible refine c_opsD ?_); have hc := @List.length_nil Nat) | ((with_reducible refine c_opsT ?_); have hc := @List.length_nil Nat) | ((with_reducible refine and_crit ?_ ?_); rfl; have hc := @List.length_nil Nat) | ((with_reducible refine crit_done ?_); rfl) | ((with_reducible refine mkC_go (fun _ => ?_)); have hc := @List.length_nil Nat) | ((with_reducible refine mkL_go (fun _ => ?_)); have hc := @List.length_nil Nat)) <;> (try simp only [Bool.not_eq_true', Bool.not_eq_false', Bool.not_true, Bool.not_false] at hc) <;> (try simp only [hc, go_sem, reduceIte, Nat.reduceEqDiff, Nat.reduceAdd, Int.reduceEq, Nat.reduceLeDiff, Nat.reduceLT, Nat.reduceBEq, Nat.reduceMul, Nat.reduceSub, Int.reduceToNat, Int.reduceLE, Int.reduceLT, Int.reduceAdd, Int.reduceSub, Int.reduceMul, Int.reduceNeg, Int.reduceDiv, Int.reduceMod, Int.reduceTDiv, Int.reduceTMod, Int.reducePow, hs, hlt, k1]))))
    refine port_l0 ms lk v hn hl2 hl1.2 i hi _ _ _ _ mr hmr (by simp only [go_sem, reduceIte, Nat.reduceEqDiff, Nat.reduceAdd, Int.reduceEq, Nat.reduceLeDiff, Nat.reduceLT, Nat.reduceBEq, Nat.reduceMul, Nat.reduceSub, Int.reduceToNat, Int.reduceLE, Int.reduceLT, Int.reduceAdd, Int.reduceSub, Int.reduceMul, Int.reduceNeg, Int.reduceDiv, Int.reduceMod, Int.reduceTDiv, Int.reduceTMod, Int.reducePow, hs]) ?_
    intro e mr hmr he
    rw [k2] at he
    generalize rolesL lk v i = rl at *
    generalize mcL lk v (i + 1) 0 = M at *
    have hd : decide ((if (1 : Int) < x.st then 1 else x.st) = if (1 : Int) < x.st then 1 else x.st) = true := decide_eq_true rfl
    (simp only [il7l1_go, il7l1b, go_sem, reduceIte, Nat.reduceEqDiff, Nat.reduceAdd, Int.reduceEq, Nat.reduceLeDiff, Nat.reduceLT, Nat.reduceBEq, Nat.reduceMul, Nat.reduceSub, Int.reduceToNat, Int.reduceLE, Int.reduceLT, Int.reduceAdd, Int.reduceSub, Int.reduceMul, Int.reduceNeg, Int.reduceDiv, Int.reduceMod, Int.reduceTDiv, Int.reduceTMod, Int.reducePow, he, hw, hg, encV_cells, hd, frz_rowM] <;> (repeat' ((first | with_reducible refine brG_intro (fun hc => ?_) (fun hc => ?_) | with_reducible refine brC_intro (fun hc => ?_) (fun hc => ?_) | ((with_reducible refine c_opsD ?_); have hc := @List.length_nil Nat) | ((with_reducible refine c_opsT ?_); have hc := @List.length_nil Nat) | ((with_reducible refine and_crit ?_ ?_); rfl; have hc := @List.length_nil Nat) | ((with_reducible refine crit_done ?_); rfl) | ((with_reducible refine mkC_go (fun _ => ?_)); have hc := @List.length_nil Nat) | ((with_reducible refine mkL_go (fun _ => ?_)); have hc := @List.length_nil Nat)) <;> (try simp only [Bool.not_eq_true', Bool.not_eq_false', Bool.not_true, Bool.not_false] at hc) <;> (try simp only [hc, go_sem, reduceIte, Nat.reduceEqDiff, Nat.reduceAdd, Int.reduceEq, Nat.reduceLeDiff, Nat.reduceLT, Nat.reduceBEq, Nat.reduceMul, Nat.reduceSub, Int.reduceToNat, Int.reduceLE, Int.reduceLT, Int.reduceAdd, Int.reduceSub, Int.reduceMul, Int.reduceNeg, Int.reduceDiv, Int.reduceMod, Int.reduceTDiv, Int.reduceTMod, Int.reducePow, he, hw, hg, encV_cells, hd, frz_rowM]))))
    all_goals (refine hk _ _ ⟨?_, mr, hmr, rfl⟩; simp only [go_sem, reduceIte, Nat.reduceEqDiff, Nat.reduceAdd, Int.reduceEq, Nat.reduceLeDiff, Nat.reduceLT, Nat.reduceBEq, Nat.reduceMul, Nat.reduceSub, Int.reduceToNat, Int.reduceLE, Int.reduceLT, Int.reduceAdd, Int.reduceSub, Int.reduceMul, Int.reduceNeg, Int.reduceDiv, Int.reduceMod, Int.reduceTDiv, Int.reduceTMod, Int.reducePow, he, hw])
  · intro _ e h Y R hlt ⟨hs, mr, hmr, hh⟩ hk
    subst hh
    (simp only [il7l1_go, il7l1b, go_sem, reduceIte, Nat.reduceEqDiff, Nat.reduceAdd, Int.reduceEq, Nat.reduceLeDiff, Nat.reduceLT, Nat.reduceBEq, Nat.reduceMul, Nat.reduceSub, Int.reduceToNat, Int.reduceLE, Int.reduceLT, Int.reduceAdd, Int.reduceSub, Int.reduceMul, Int.reduceNeg, Int.reduceDiv, Int.reduceMod, Int.reduceTDiv, Int.reduceTMod, Int.reducePow, hs, hlt, frz_rowM] <;> (repeat' ((first | with_reducible refine brG_intro (fun hc => ?_) (fun hc => ?_) | with_reducible refine brC_intro (fun hc => ?_) (fun hc => ?_) | ((with_reducible refine c_opsD ?_); have hc := @List.length_nil Nat) | ((with_reducible refine c_opsT ?_); have hc := @List.length_nil Nat) | ((with_reducible refine and_crit ?_ ?_); rfl; have hc := @List.length_nil Nat) | ((with_reducible refine crit_done ?_); rfl) | ((with_reducible refine mkC_go (fun _ => ?_)); have hc := @List.length_nil Nat) | ((with_reducible refine mkL_go (fun _ => ?_)); have hc := @List.length_nil Nat)) <;> (try simp only [Bool.not_eq_true', Bool.not_eq_false', Bool.not_true, Bool.not_false] at hc) <;> (try simp only [hc, go_sem, reduceIte, Nat.reduceEqDiff, Nat.reduceAdd, Int.reduceEq, Nat.reduceLeDiff, Nat.reduceLT, Nat.reduceBEq, Nat.reduceMul, Nat.reduceSub, Int.reduceToNat, Int.reduceLE, Int.reduceLT, Int.reduceAdd, Int.reduceSub, Int.reduceMul, Int.reduceNeg, Int.reduceDiv, Int.reduceMod, Int.reduceTDiv, Int.reduceTMod, Int.reducePow, hs, hlt, frz_rowM]))))
    all_goals (refine hk _ _ _ ⟨?_, rfl, mr, hmr, rfl⟩; simp only [go_sem, reduceIte, Nat.reduceEqDiff, Nat.reduceAdd, Int.reduceEq, Nat.reduceLeDiff, Nat.reduceLT, Nat.reduceBEq, Nat.reduceMul, Nat.reduceSub, Int.reduceToNat, Int.reduceLE, Int.reduceLT, Int.reduceAdd, Int.reduceSub, Int.reduceMul, Int.reduceNeg, Int.reduceDiv, Int.reduceMod, Int.reduceTDiv, Int.reduceTMod, Int.reducePow, hs])
  · refine ⟨?_, 0, by omega, ?_⟩
    · simp only [go_sem, reduceIte, Nat.reduceEqDiff, Nat.reduceAdd, Int.reduceEq, Nat.reduceLeDiff, Nat.reduceLT, Nat.reduceBEq, Nat.reduceMul, Nat.reduceSub, Int.reduceToNat, Int.reduceLE, Int.reduceLT, Int.reduceAdd, Int.reduceSub, Int.reduceMul, Int.reduceNeg, Int.reduceDiv, Int.reduceMod, Int.reduceTDiv, Int.reduceTMod, Int.reducePow]
    · have : mcL lk v 0 0 = List.replicate lk.length 0 := by
        rw [mcL, List.eq_replicate_iff]
        simp [mcn]
      rw [this]; simp
  · intro y e h ⟨h1, h2, mr, hmr, h3⟩
    subst h2 h3
    have hM : mcL lk v ms.length 0 = List.replicate lk.length 1 := by
      rw [mcL, List.eq_replicate_iff]
      refine ⟨by simp, fun b hb => ?_⟩
      simp only [List.mem_map, List.mem_range] at hb
      obtain ⟨j, hj, rfl⟩ := hb
      simp only [mcn, one_master hn hf hj]
      simp
    rw [hM]
    have hML : (List.replicate lk.length (1 : Int)).length = lk.length := by simp
    (simp only [il7c, go_sem, reduceIte, Nat.reduceEqDiff, Nat.reduceAdd, Int.reduceEq, Nat.reduceLeDiff, Nat.reduceLT, Nat.reduceBEq, Nat.reduceMul, Nat.reduceSub, Int.reduceToNat, Int.reduceLE, Int.reduceLT, Int.reduceAdd, Int.reduceSub, Int.reduceMul, Int.reduceNeg, Int.reduceDiv, Int.reduceMod, Int.reduceTDiv, Int.reduceTMod, Int.reducePow, h1] <;> (repeat' ((first | with_reducible refine brG_intro (fun hc => ?_) (fun hc => ?_) | with_reducible refine brC_intro (fun hc => ?_) (fun hc => ?_) | ((with_reducible refine c_opsD ?_); have hc := @List.length_nil Nat) | ((with_reducible refine c_opsT ?_); have hc := @List.length_nil Nat) | ((with_reducible refine and_crit ?_ ?_); rfl; have hc := @List.length_nil Nat) | ((with_reducible refine crit_done ?_); rfl) | ((with_reducible refine mkC_go (fun _ => ?_)); have hc := @List.length_nil Nat) | ((with_reducible refine mkL_go (fun _ => ?_)); have hc := @List.length_nil Nat)) <;> (try simp only [Bool.not_eq_true', Bool.not_eq_false', Bool.not_true, Bool.not_false] at hc) <;> (try simp only [hc, go_sem, reduceIte, Nat.reduceEqDiff, Nat.reduceAdd, Int.reduceEq, Nat.reduceLeDiff, Nat.reduceLT, Nat.reduceBEq, Nat.reduceMul, Nat.reduceSub, Int.reduceToNat, Int.reduceLE, Int.reduceLT, Int.reduceAdd, Int.reduceSub, Int.reduceMul, Int.reduceNeg, Int.reduceDiv, Int.reduceMod, Int.reduceTDiv, Int.reduceTMod, Int.reducePow, h1]))))
    refine loop_upto lk.length (step := fun i (_ : Unit) => Ctl.go ()) (fin := id)
      (St := fun i _ e h => (e 104 = .ms 1 lk.length 0 lk.length 1 true ∧ e 105 = .t (I' (lk.length : Nat)) ∧ e 106 = .t (I' (i : Nat))) ∧ h = [spH ms lk, .row 1 (((List.replicate lk.length (1 : Int)).map I').map .t) mr])
      (Ex := fun _ y e h => y = .exit 4) (s := ()) (by omega) ?_ ?_ (by omega) ?_ ?_
    · intro i _ e h Y R hi hlt hw ⟨hs, hh⟩ hk
      subst hh
      simp only [ctlK_go] at hk
      have hg : (((List.replicate lk.length (1 : Int)).map I').map AV.t)[i]? = some (.t (I' 1)) := map_get (enc := I') (by simp [hi])
      generalize List.replicate lk.length (1 : Int) = M at *
      (simp only [il7l2_go, il7l2b, go_sem, reduceIte, Nat.reduceEqDiff, Nat.reduceAdd, Int.reduceEq, Nat.reduceLeDiff, Nat.reduceLT, Nat.reduceBEq, Nat.reduceMul, Nat.reduceSub, Int.reduceToNat, Int.reduceLE, Int.reduceLT, Int.reduceAdd, Int.reduceSub, Int.reduceMul, Int.reduceNeg, Int.reduceDiv, Int.reduceMod, Int.reduceTDiv, Int.reduceTMod, Int.reducePow, hs, hlt, hi, hw, hg, hmr, hML, frz_rowM] <;> (repeat' ((first | with_reducible refine brG_intro (fun hc => ?_) (fun hc => ?_) | with_reducible refine brC_intro (fun hc => ?_) (fun hc => ?_) | ((with_reducible refine c_opsD ?_); have hc := @List.length_nil Nat) | ((with_reducible refine c_opsT ?_); have hc := @List.length_nil Nat) | ((with_reducible refine and_crit ?_ ?_); rfl; have hc := @List.length_nil Nat) | ((with_reducible refine crit_done ?_); rfl) | ((with_reducible refine mkC_go (fun _ => ?_)); have hc := @List.length_nil Nat) | ((with_reducible refine mkL_go (fun _ => ?_)); have hc := @List.length_nil Nat)) <;> (try simp only [Bool.not_eq_true', Bool.not_eq_false', Bool.not_true, Bool.not_false] at hc) <;> (try simp only [hc, go_sem, reduceIte, Nat.reduceEqDiff, Nat.reduceAdd, Int.reduceEq, Nat.reduceLeDiff, Nat.reduceLT, Nat.reduceBEq, Nat.reduceMul, Nat.reduceSub, Int.reduceToNat, Int.reduceLE, Int.reduceLT, Int.reduceAdd, Int.reduceSub, Int.reduceMul, Int.reduceNeg, Int.reduceDiv, Int.reduceMod, Int.reduceTDiv, Int.reduceTMod, Int.reducePow, hs, hlt, hi, hw, hg, hmr, hML, frz_rowM]))))
      all_goals (refine hk _ _ ⟨?_, rfl⟩; simp only [go_sem, reduceIte, Nat.reduceEqDiff, Nat.reduceAdd, Int.reduceEq, Nat.reduceLeDiff, Nat.reduceLT, Nat.reduceBEq, Nat.reduceMul, Nat.reduceSub, Int.reduceToNat, Int.reduceLE, Int.reduceLT, Int.reduceAdd, Int.reduceSub, Int.reduceMul, Int.reduceNeg, Int.reduceDiv, Int.reduceMod, Int.reduceTDiv, Int.reduceTMod, Int.reducePow, hs, hw])
    · intro _ e h Y R hlt ⟨hs, hh⟩ hk
      subst hh
      (simp only [il7l2_go, il7l2b, go_sem, reduceIte, Nat.reduceEqDiff, Nat.reduceAdd, Int.reduceEq, Nat.reduceLeDiff, Nat.reduceLT, Nat.reduceBEq, Nat.reduceMul, Nat.reduceSub, Int.reduceToNat, Int.reduceLE, Int.reduceLT, Int.reduceAdd, Int.reduceSub, Int.reduceMul, Int.reduceNeg, Int.reduceDiv, Int.reduceMod, Int.reduceTDiv, Int.reduceTMod, Int.reducePow, hs, hlt, frz_rowM] <;> (repeat' ((first | with_reducible refine brG_intro (fun hc => ?_) (fun hc => ?_) | with_reducible refine brC_intro (fun hc => ?_) (fun hc => ?_) | ((with_reducible refine c_opsD ?_); have hc := @List.length_nil Nat) | ((with_reducible refine c_opsT ?_); have hc := @List.length_nil Nat) | ((with_reducible refine and_crit ?_ ?_); rfl; have hc := @List.length_nil Nat) | ((with_reducible refine crit_done ?_); rfl) | ((with_reducible refine mkC_go (fun _ => ?_)); have hc := @List.length_nil Nat) | ((with_reducible refine mkL_go (fun _ => ?_)); have hc := @List.length_nil Nat)) <;> (try simp only [Bool.not_eq_true', Bool.not_eq_false', Bool.not_true, Bool.not_false] at hc) <;> (try simp only [hc, go_sem, reduceIte, Nat.reduceEqDiff, Nat.reduceAdd, Int.reduceEq, Nat.reduceLeDiff, Nat.reduceLT, Nat.reduceBEq, Nat.reduceMul, Nat.reduceSub, Int.reduceToNat, Int.reduceLE, Int.reduceLT, Int.reduceAdd, Int.reduceSub, Int.reduceMul, Int.reduceNeg, Int.reduceDiv, Int.reduceMod, Int.reduceTDiv, Int.reduceTMod, Int.reducePow, hs, hlt, frz_rowM]))))
      all_goals exact hk _ _ _ rfl
    · refine ⟨?_, rfl⟩
      simp only [go_sem, reduceIte, Nat.reduceEqDiff, Nat.reduceAdd, Int.reduceEq, Nat.reduceLeDiff, Nat.reduceLT, Nat.reduceBEq, Nat.reduceMul, Nat.reduceSub, Int.reduceToNat, Int.reduceLE, Int.reduceLT, Int.reduceAdd, Int.reduceSub, Int.reduceMul, Int.reduceNeg, Int.reduceDiv, Int.reduceMod, Int.reduceTDiv, Int.reduceTMod, Int.reducePow, h1]
    · intro y e h h2
      subst h2
      (simp only [il7c, go_sem, reduceIte, Nat.reduceEqDiff, Nat.reduceAdd, Int.reduceEq, Nat.reduceLeDiff, Nat.reduceLT, Nat.reduceBEq, Nat.reduceMul, Nat.reduceSub, Int.reduceToNat, Int.reduceLE, Int.reduceLT, Int.reduceAdd, Int.reduceSub, Int.reduceMul, Int.reduceNeg, Int.reduceDiv, Int.reduceMod, Int.reduceTDiv, Int.reduceTMod, Int.reducePow] <;> (repeat' ((first | with_reducible refine brG_intro (fun hc => ?_) (fun hc => ?_) | with_reducible refine brC_intro (fun hc => ?_) (fun hc => ?_) | ((with_reducible refine c_opsD ?_); have hc := @List.length_nil Nat) | ((with_reducible refine c_opsT ?_); have hc := @List.length_nil Nat) | ((with_reducible refine and_crit ?_ ?_); rfl; have hc := @List.length_nil Nat) | ((with_reducible refine crit_done ?_); rfl) | ((with_reducible refine mkC_go (fun _ => ?_)); have hc := @List.length_nil Nat) | ((with_reducible refine mkL_go (fun _ => ?_)); have hc := @List.length_nil Nat)) <;> (try simp only [Bool.not_eq_true', Bool.not_eq_false', Bool.not_true, Bool.not_false] at hc) <;> (try simp only [hc, go_sem, reduceIte, Nat.reduceEqDiff, Nat.reduceAdd, Int.reduceEq, Nat.reduceLeDiff, Nat.reduceLT, Nat.reduceBEq, Nat.reduceMul, Nat.reduceSub, Int.reduceToNat, Int.reduceLE, Int.reduceLT, Int.reduceAdd, Int.reduceSub, Int.reduceMul, Int.reduceNeg, Int.reduceDiv, Int.reduceMod, Int.reduceTDiv, Int.reduceTMod, Int.reducePow]))))

end Go.Proofs.Ytboknhdkadcaeaa
