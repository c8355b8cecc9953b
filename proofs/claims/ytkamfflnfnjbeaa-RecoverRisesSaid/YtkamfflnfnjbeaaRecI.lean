/- The law RecoverRises. -/
import Derived.Test.YtkamfflnfnjbeaaRecF
namespace Go.Proofs.Ytkamfflnfnjbeaa
open Go Go.Abs
set_option linter.unusedSimpArgs false
set_option linter.unusedVariables false
set_option maxRecDepth 100000
set_option maxHeartbeats 2000000

def rise (i : Nat) (s : Rc) : Prop := (i = 0 ∧ s = ⟨1, 9, true, 0, 0, 0⟩) ∨ (0 < i ∧ ∃ la, (0 ≤ la ∧ la < 65536) ∧ s = ⟨1, 9, false, la, 0, 1⟩)
theorem rise_step {i : Nat} {s : Rc} {x : Int} (hx : 0 ≤ x ∧ x < 65536) (h : rise i s) : okR s ∧ argR s x 0 ∧ ((i = 0 ∧ acc s x 0 = (⟨1, 9, false, x, 0, 1⟩, true)) ∨ (0 < i ∧ acc s x 0 = (s, false))) := by
  rcases h with ⟨h1, rfl⟩ | ⟨h1, la, hla, rfl⟩
  · refine ⟨by decide, ⟨hx, by omega, by show (0 : Int) ≤ 0; omega⟩, .inl ⟨h1, ?_⟩⟩
    rw [acc, if_pos (.inl rfl)]
  · refine ⟨⟨⟨by show (1 : Int) ≤ 1; omega, by show (1 : Int) ≤ 64; omega, by show (1 : Int) ≤ 9; omega, by show (9 : Int) ≤ 1099511627776; omega⟩, ?_⟩, ⟨hx, by omega, by show (0 : Int) ≤ 0; omega⟩, .inr ⟨h1, ?_⟩⟩
    · simp only [Bool.false_eq_true, if_false]
      exact ⟨hla, by omega, rfl, by decide⟩
    · rw [acc, if_neg (by simp)]
      split
      · rfl
      · rename_i q
        simp only at q
        have hd : dl la x = 0 := by omega
        simp only [hd]
        rfl

abbrev I16 (n : Int) : T := .sc (.int .i16 n)
theorem recoverRises_ans (first : Int) (l : List Int) (length reset n : Int) (h1 : 0 ≤ first ∧ first < 65536) (hl : ∀ x ∈ l, -32768 ≤ x ∧ x < 32768) (h2 : 0 ≤ length ∧ length < 256) (h3 : 0 ≤ reset ∧ reset < 65536) (h4 : 0 ≤ n ∧ n < 65536) :
    ans Try.prog pol 13 [.sc (.int .u16 first), .sl false 1 (l.map I16), .sc (.int .u8 length), .sc (.int .u16 reset), .sc (.int .u16 n)] = some (B true) := by
  have w1 : IntKind.i64.wrap first = first := wrap_i64 (by omega) (by omega)
  have c1 := new_ans 1 9
  have qn : limR ⟨1, 9, true, 0, 0, 0⟩ := by decide
  rw [if_pos qn, encR] at c1
  have hmin : (if (100 : Int) < (l.length : Nat) then 100 else ((l.length : Nat) : Int)) = ((min l.length 100 : Nat) : Int) := by split <;> omega
  have htake : (l.map I16).take (min l.length 100) = (l.take 100).map I16 := by
    rw [← List.map_take]; congr 1
    by_cases h : l.length ≤ 100
    · rw [Nat.min_eq_left h, List.take_of_length_le (Nat.le_refl _), List.take_of_length_le h]
    · rw [Nat.min_eq_right (by omega)]
  have hle : min l.length 100 ≤ l.length := Nat.min_le_left _ _
  have hlen : (l.take 100).length ≤ 100 := by simp; omega
  have hl' : ∀ x ∈ l.take 100, -32768 ≤ x ∧ x < 32768 := fun x hx => hl x (List.mem_of_mem_take hx)
  generalize l.take 100 = l' at htake hlen hl'
  refine ans_go 200 1 il13_eq (Nat.le_of_ble_eq_true rfl) ?_
  (simp only [il13c, go_sem, reduceIte, Nat.reduceEqDiff, Nat.reduceAdd, Int.reduceEq, Nat.reduceLeDiff, Nat.reduceLT, pol_inl, polInl, polSite, Nat.reduceBEq, Nat.reduceMul, Nat.reduceSub, Int.reduceToNat, Int.reduceLE, Int.reduceLT, Int.reduceAdd, Int.reduceSub, Int.reduceMul, Int.reduceNeg, Int.reduceDiv, Int.reduceMod, Int.reduceTDiv, Int.reduceTMod, pol_inlT, Int.reducePow, pol_inlS, binE_agg, binE_slc, binE_nil, binE_msn, slB_eq, slB_ne, eqV_app, eqR_eq, eqR_ne, rho_tmp, mkSl_app, raw13_12_23, eqT31, eqT65, eqT46, eqT50, works40_ans, w1, c1, hmin, htake, hle] <;> (repeat' ((first | with_reducible refine brG_intro (fun hc => ?_) (fun hc => ?_) | with_reducible refine brC_intro (fun hc => ?_) (fun hc => ?_) | with_reducible refine c_opsD ?_ | with_reducible refine c_opsT ?_ | ((with_reducible refine and_crit ?_ ?_); rfl) | ((with_reducible refine crit_done ?_); rfl) | with_reducible refine mkC_go (fun _ => ?_) | with_reducible refine mkL_go (fun _ => ?_)) <;> (try simp only [Bool.not_eq_true', Bool.not_eq_false', Bool.not_true, Bool.not_false] at hc) <;> (first | simp only [hc, go_sem, reduceIte, Nat.reduceEqDiff, Nat.reduceAdd, Int.reduceEq, Nat.reduceLeDiff, Nat.reduceLT, pol_inl, polInl, polSite, Nat.reduceBEq, Nat.reduceMul, Nat.reduceSub, Int.reduceToNat, Int.reduceLE, Int.reduceLT, Int.reduceAdd, Int.reduceSub, Int.reduceMul, Int.reduceNeg, Int.reduceDiv, Int.reduceMod, Int.reduceTDiv, Int.reduceTMod, pol_inlT, Int.reducePow, pol_inlS, binE_agg, binE_slc, binE_nil, binE_msn, slB_eq, slB_ne, eqV_app, eqR_eq, eqR_ne, rho_tmp, mkSl_app, raw13_12_23, eqT31, eqT65, eqT46, eqT50, works40_ans, w1, c1, hmin, htake, hle] | simp only [go_sem, reduceIte, Nat.reduceEqDiff, Nat.reduceAdd, Int.reduceEq, Nat.reduceLeDiff, Nat.reduceLT, pol_inl, polInl, polSite, Nat.reduceBEq, Nat.reduceMul, Nat.reduceSub, Int.reduceToNat, Int.reduceLE, Int.reduceLT, Int.reduceAdd, Int.reduceSub, Int.reduceMul, Int.reduceNeg, Int.reduceDiv, Int.reduceMod, Int.reduceTDiv, Int.reduceTMod, pol_inlT, Int.reducePow, pol_inlS, binE_agg, binE_slc, binE_nil, binE_msn, slB_eq, slB_ne, eqV_app, eqR_eq, eqR_ne, rho_tmp, mkSl_app, raw13_12_23, eqT31, eqT65, eqT46, eqT50, works40_ans, w1, c1, hmin, htake, hle] | skip))))
  refine loop_range l' I16 (step := fun i x s => .go (acc s ((first + x.tmod 4 + 65536) % 65536) 0).1) (fin := id)
    (St := fun i s e h => (e 0 = .t (.sc (.int .u16 first)) ∧ e 2 = .t (.sc (.int .u8 length)) ∧ e 3 = .t (.sc (.int .u16 reset)) ∧ e 4 = .t (.sc (.int .u16 n)) ∧ e 11 = .ref 0 1 0 0 ∧ e 40 = .t (.sl false 1 (l'.map I16)) ∧ e 41 = .t (I (l'.length : Nat)) ∧ e 42 = .t (I (i : Nat))) ∧ h = [bxR s] ∧ rise i s)
    (Ex := fun s x e h => (e 0 = .t (.sc (.int .u16 first)) ∧ e 2 = .t (.sc (.int .u8 length)) ∧ e 3 = .t (.sc (.int .u16 reset)) ∧ e 4 = .t (.sc (.int .u16 n))) ∧ x = .exit 0 ∧ h = [bxR s]) (s := ⟨1, 9, true, 0, 0, 0⟩) (by omega) ?_ ?_ (by omega) ?_ ?_
  · intro i x s e h Y R hm hi hx hget hlt hw ⟨hs', hh, hinv⟩ hK
    subst hh
    have hxb := hl' x hm
    have ht := tmod_cases x 4
    have v1 : IntKind.i64.wrap x = x := wrap_i64 (by omega) (by omega)
    have v2 : IntKind.i64.wrap (first + x.tmod 4) = first + x.tmod 4 := wrap_i64 (by omega) (by omega)
    have v3 : IntKind.i64.wrap (first + x.tmod 4 + 65536) = first + x.tmod 4 + 65536 := wrap_i64 (by omega) (by omega)
    have v4 : (first + x.tmod 4 + 65536).tmod 65536 = (first + x.tmod 4 + 65536) % 65536 := Int.tmod_eq_emod_of_nonneg (by omega)
    have hy : 0 ≤ (first + x.tmod 4 + 65536) % 65536 ∧ (first + x.tmod 4 + 65536) % 65536 < 65536 := by omega
    simp only [ctlK_go] at hK
    clear ht
    generalize (first + x.tmod 4 + 65536) % 65536 = y at *
    obtain ⟨hok, ha, hcase⟩ := rise_step hy hinv
    have c2 := accept_ans s y 0 (okR_seen hok)
    rw [accept, if_pos hok, if_pos ha, encR] at c2
    rcases hcase with ⟨hi0, hacc⟩ | ⟨hi0, hacc⟩
    · have d0 : decide ((i : Int) = 0) = true := decide_eq_true (by omega)
      have hnext : rise (i + 1) (acc s y 0).1 := .inr ⟨by omega, y, hy, by rw [hacc]⟩
      rw [hacc] at hK hnext c2
      simp only [bxR] at hK ⊢
      (simp only [il13l0_go, il13l0b, go_sem, reduceIte, Nat.reduceEqDiff, Nat.reduceAdd, Int.reduceEq, Nat.reduceLeDiff, Nat.reduceLT, pol_inl, polInl, polSite, Nat.reduceBEq, Nat.reduceMul, Nat.reduceSub, Int.reduceToNat, Int.reduceLE, Int.reduceLT, Int.reduceAdd, Int.reduceSub, Int.reduceMul, Int.reduceNeg, Int.reduceDiv, Int.reduceMod, Int.reduceTDiv, Int.reduceTMod, pol_inlT, Int.reducePow, pol_inlS, binE_agg, binE_slc, binE_nil, binE_msn, slB_eq, slB_ne, eqV_app, eqR_eq, eqR_ne, rho_tmp, mkSl_app, raw13_12_23, eqT31, eqT65, eqT46, eqT50, hs', hlt, hw, hget, w1, v1, v2, v3, v4, c2, d0] <;> (repeat' ((first | with_reducible refine brG_intro (fun hc => ?_) (fun hc => ?_) | with_reducible refine brC_intro (fun hc => ?_) (fun hc => ?_) | with_reducible refine c_opsD ?_ | with_reducible refine c_opsT ?_ | ((with_reducible refine and_crit ?_ ?_); rfl) | ((with_reducible refine crit_done ?_); rfl) | with_reducible refine mkC_go (fun _ => ?_) | with_reducible refine mkL_go (fun _ => ?_)) <;> (try simp only [Bool.not_eq_true', Bool.not_eq_false', Bool.not_true, Bool.not_false] at hc) <;> (first | simp only [hc, go_sem, reduceIte, Nat.reduceEqDiff, Nat.reduceAdd, Int.reduceEq, Nat.reduceLeDiff, Nat.reduceLT, pol_inl, polInl, polSite, Nat.reduceBEq, Nat.reduceMul, Nat.reduceSub, Int.reduceToNat, Int.reduceLE, Int.reduceLT, Int.reduceAdd, Int.reduceSub, Int.reduceMul, Int.reduceNeg, Int.reduceDiv, Int.reduceMod, Int.reduceTDiv, Int.reduceTMod, pol_inlT, Int.reducePow, pol_inlS, binE_agg, binE_slc, binE_nil, binE_msn, slB_eq, slB_ne, eqV_app, eqR_eq, eqR_ne, rho_tmp, mkSl_app, raw13_12_23, eqT31, eqT65, eqT46, eqT50, hs', hlt, hw, hget, w1, v1, v2, v3, v4, c2, d0] | simp only [go_sem, reduceIte, Nat.reduceEqDiff, Nat.reduceAdd, Int.reduceEq, Nat.reduceLeDiff, Nat.reduceLT, pol_inl, polInl, polSite, Nat.reduceBEq, Nat.reduceMul, Nat.reduceSub, Int.reduceToNat, Int.reduceLE, Int.reduceLT, Int.reduceAdd, Int.reduceSub, Int.reduceMul, Int.reduceNeg, Int.reduceDiv, Int.reduceMod, Int.reduceTDiv, Int.reduceTMod, pol_inlT, Int.reducePow, pol_inlS, binE_agg, binE_slc, binE_nil, binE_msn, slB_eq, slB_ne, eqV_app, eqR_eq, eqR_ne, rho_tmp, mkSl_app, raw13_12_23, eqT31, eqT65, eqT46, eqT50, hs', hlt, hw, hget, w1, v1, v2, v3, v4, c2, d0] | skip))))
      all_goals (refine hK _ _ ⟨?_, rfl, hnext⟩; simp only [go_sem, reduceIte, Nat.reduceEqDiff, Nat.reduceAdd, Int.reduceEq, Nat.reduceLeDiff, Nat.reduceLT, pol_inl, polInl, polSite, Nat.reduceBEq, Nat.reduceMul, Nat.reduceSub, Int.reduceToNat, Int.reduceLE, Int.reduceLT, Int.reduceAdd, Int.reduceSub, Int.reduceMul, Int.reduceNeg, Int.reduceDiv, Int.reduceMod, Int.reduceTDiv, Int.reduceTMod, pol_inlT, Int.reducePow, pol_inlS, hs', hw])
    · have d0 : decide ((i : Int) = 0) = false := decide_eq_false (by omega)
      have hnext : rise (i + 1) (acc s y 0).1 := by
        rw [hacc]
        rcases hinv with ⟨h, _⟩ | ⟨_, h⟩
        · omega
        · exact .inr ⟨by omega, h⟩
      rw [hacc] at hK hnext c2
      simp only [bxR] at hK ⊢
      (simp only [il13l0_go, il13l0b, go_sem, reduceIte, Nat.reduceEqDiff, Nat.reduceAdd, Int.reduceEq, Nat.reduceLeDiff, Nat.reduceLT, pol_inl, polInl, polSite, Nat.reduceBEq, Nat.reduceMul, Nat.reduceSub, Int.reduceToNat, Int.reduceLE, Int.reduceLT, Int.reduceAdd, Int.reduceSub, Int.reduceMul, Int.reduceNeg, Int.reduceDiv, Int.reduceMod, Int.reduceTDiv, Int.reduceTMod, pol_inlT, Int.reducePow, pol_inlS, binE_agg, binE_slc, binE_nil, binE_msn, slB_eq, slB_ne, eqV_app, eqR_eq, eqR_ne, rho_tmp, mkSl_app, raw13_12_23, eqT31, eqT65, eqT46, eqT50, hs', hlt, hw, hget, w1, v1, v2, v3, v4, c2, d0] <;> (repeat' ((first | with_reducible refine brG_intro (fun hc => ?_) (fun hc => ?_) | with_reducible refine brC_intro (fun hc => ?_) (fun hc => ?_) | with_reducible refine c_opsD ?_ | with_reducible refine c_opsT ?_ | ((with_reducible refine and_crit ?_ ?_); rfl) | ((with_reducible refine crit_done ?_); rfl) | with_reducible refine mkC_go (fun _ => ?_) | with_reducible refine mkL_go (fun _ => ?_)) <;> (try simp only [Bool.not_eq_true', Bool.not_eq_false', Bool.not_true, Bool.not_false] at hc) <;> (first | simp only [hc, go_sem, reduceIte, Nat.reduceEqDiff, Nat.reduceAdd, Int.reduceEq, Nat.reduceLeDiff, Nat.reduceLT, pol_inl, polInl, polSite, Nat.reduceBEq, Nat.reduceMul, Nat.reduceSub, Int.reduceToNat, Int.reduceLE, Int.reduceLT, Int.reduceAdd, Int.reduceSub, Int.reduceMul, Int.reduceNeg, Int.reduceDiv, Int.reduceMod, Int.reduceTDiv, Int.reduceTMod, pol_inlT, Int.reducePow, pol_inlS, binE_agg, binE_slc, binE_nil, binE_msn, slB_eq, slB_ne, eqV_app, eqR_eq, eqR_ne, rho_tmp, mkSl_app, raw13_12_23, eqT31, eqT65, eqT46, eqT50, hs', hlt, hw, hget, w1, v1, v2, v3, v4, c2, d0] | simp only [go_sem, reduceIte, Nat.reduceEqDiff, Nat.reduceAdd, Int.reduceEq, Nat.reduceLeDiff, Nat.reduceLT, pol_inl, polInl, polSite, Nat.reduceBEq, Nat.reduceMul, Nat.reduceSub, Int.reduceToNat, Int.reduceLE, Int.reduceLT, Int.reduceAdd, Int.reduceSub, Int.reduceMul, Int.reduceNeg, Int.reduceDiv, Int.reduceMod, Int.reduceTDiv, Int.reduceTMod, pol_inlT, Int.reducePow, pol_inlS, binE_agg, binE_slc, binE_nil, binE_msn, slB_eq, slB_ne, eqV_app, eqR_eq, eqR_ne, rho_tmp, mkSl_app, raw13_12_23, eqT31, eqT65, eqT46, eqT50, hs', hlt, hw, hget, w1, v1, v2, v3, v4, c2, d0] | skip))))
      all_goals (refine hK _ _ ⟨?_, rfl, hnext⟩; simp only [go_sem, reduceIte, Nat.reduceEqDiff, Nat.reduceAdd, Int.reduceEq, Nat.reduceLeDiff, Nat.reduceLT, pol_inl, polInl, polSite, Nat.reduceBEq, Nat.reduceMul, Nat.reduceSub, Int.reduceToNat, Int.reduceLE, Int.reduceLT, Int.reduceAdd, Int.reduceSub, Int.reduceMul, Int.reduceNeg, Int.reduceDiv, Int.reduceMod, Int.reduceTDiv, Int.reduceTMod, pol_inlT, Int.reducePow, pol_inlS, hs', hw])
  · intro s e h Y R hlt ⟨hs', hh, hinv⟩ hK
    subst hh
    (simp only [il13l0_go, il13l0b, go_sem, reduceIte, Nat.reduceEqDiff, Nat.reduceAdd, Int.reduceEq, Nat.reduceLeDiff, Nat.reduceLT, pol_inl, polInl, polSite, Nat.reduceBEq, Nat.reduceMul, Nat.reduceSub, Int.reduceToNat, Int.reduceLE, Int.reduceLT, Int.reduceAdd, Int.reduceSub, Int.reduceMul, Int.reduceNeg, Int.reduceDiv, Int.reduceMod, Int.reduceTDiv, Int.reduceTMod, pol_inlT, Int.reducePow, pol_inlS, binE_agg, binE_slc, binE_nil, binE_msn, slB_eq, slB_ne, eqV_app, eqR_eq, eqR_ne, rho_tmp, mkSl_app, raw13_12_23, eqT31, eqT65, eqT46, eqT50, hs', hlt] <;> (repeat' ((first | with_reducible refine brG_intro (fun hc => ?_) (fun hc => ?_) | with_reducible refine brC_intro (fun hc => ?_) (fun hc => ?_) | with_reducible refine c_opsD ?_ | with_reducible refine c_opsT ?_ | ((with_reducible refine and_crit ?_ ?_); rfl) | ((with_reducible refine crit_done ?_); rfl) | with_reducible refine mkC_go (fun _ => ?_) | with_reducible refine mkL_go (fun _ => ?_)) <;> (try simp only [Bool.not_eq_true', Bool.not_eq_false', Bool.not_true, Bool.not_false] at hc) <;> (first | simp only [hc, go_sem, reduceIte, Nat.reduceEqDiff, Nat.reduceAdd, Int.reduceEq, Nat.reduceLeDiff, Nat.reduceLT, pol_inl, polInl, polSite, Nat.reduceBEq, Nat.reduceMul, Nat.reduceSub, Int.reduceToNat, Int.reduceLE, Int.reduceLT, Int.reduceAdd, Int.reduceSub, Int.reduceMul, Int.reduceNeg, Int.reduceDiv, Int.reduceMod, Int.reduceTDiv, Int.reduceTMod, pol_inlT, Int.reducePow, pol_inlS, binE_agg, binE_slc, binE_nil, binE_msn, slB_eq, slB_ne, eqV_app, eqR_eq, eqR_ne, rho_tmp, mkSl_app, raw13_12_23, eqT31, eqT65, eqT46, eqT50, hs', hlt] | simp only [go_sem, reduceIte, Nat.reduceEqDiff, Nat.reduceAdd, Int.reduceEq, Nat.reduceLeDiff, Nat.reduceLT, pol_inl, polInl, polSite, Nat.reduceBEq, Nat.reduceMul, Nat.reduceSub, Int.reduceToNat, Int.reduceLE, Int.reduceLT, Int.reduceAdd, Int.reduceSub, Int.reduceMul, Int.reduceNeg, Int.reduceDiv, Int.reduceMod, Int.reduceTDiv, Int.reduceTMod, pol_inlT, Int.reducePow, pol_inlS, binE_agg, binE_slc, binE_nil, binE_msn, slB_eq, slB_ne, eqV_app, eqR_eq, eqR_ne, rho_tmp, mkSl_app, raw13_12_23, eqT31, eqT65, eqT46, eqT50, hs', hlt] | skip))))
    all_goals (refine hK _ _ _ ?_; simp only [go_sem, reduceIte, Nat.reduceEqDiff, Nat.reduceAdd, Int.reduceEq, Nat.reduceLeDiff, Nat.reduceLT, pol_inl, polInl, polSite, Nat.reduceBEq, Nat.reduceMul, Nat.reduceSub, Int.reduceToNat, Int.reduceLE, Int.reduceLT, Int.reduceAdd, Int.reduceSub, Int.reduceMul, Int.reduceNeg, Int.reduceDiv, Int.reduceMod, Int.reduceTDiv, Int.reduceTMod, pol_inlT, Int.reducePow, pol_inlS, hs', id])
  · refine ⟨?_, ?_, ?_⟩
    · simp only [go_sem, reduceIte, Nat.reduceEqDiff, Nat.reduceAdd, Int.reduceEq, Nat.reduceLeDiff, Nat.reduceLT, pol_inl, polInl, polSite, Nat.reduceBEq, Nat.reduceMul, Nat.reduceSub, Int.reduceToNat, Int.reduceLE, Int.reduceLT, Int.reduceAdd, Int.reduceSub, Int.reduceMul, Int.reduceNeg, Int.reduceDiv, Int.reduceMod, Int.reduceTDiv, Int.reduceTMod, pol_inlT, Int.reducePow, pol_inlS]
    · rfl
    · exact .inl ⟨rfl, rfl⟩
  · intro x e h ⟨he, hx, hh⟩
    subst hx hh
    generalize foldC _ _ _ _ _ = s
    have t1 : length.tmod 64 = length % 64 := Int.tmod_eq_emod_of_nonneg h2.1
    have u1 : IntKind.i64.wrap (length % 64) = length % 64 := wrap_i64 (by omega) (by omega)
    obtain ⟨L, hLe⟩ : ∃ L, L = 1 + length % 64 := ⟨_, rfl⟩
    have u2 : IntKind.i64.wrap (1 + length % 64) = L := by rw [hLe]; exact wrap_i64 (by omega) (by omega)
    have u3 : IntKind.i64.wrap reset = reset := wrap_i64 (by omega) (by omega)
    have u4 : IntKind.i64.wrap (1 + reset) = 1 + reset := wrap_i64 (by omega) (by omega)
    have u5 : IntKind.i64.wrap (first + 64) = first + 64 := wrap_i64 (by omega) (by omega)
    have u6 : IntKind.i64.wrap n = n := wrap_i64 (by omega) (by omega)
    have t2 : n.tmod 65408 = n % 65408 := Int.tmod_eq_emod_of_nonneg h4.1
    have u7 : IntKind.i64.wrap (first + 64 + n % 65408) = first + 64 + n % 65408 := wrap_i64 (by omega) (by omega)
    have t3 : (first + 64 + n % 65408).tmod 65536 = (first + 64 + n % 65408) % 65536 := Int.tmod_eq_emod_of_nonneg (by omega)
    have u8 : IntKind.i64.wrap (7 + (1 + reset)) = 8 + reset := by rw [wrap_i64 (by omega) (by omega)]; omega
    have u9 : IntKind.i64.wrap (8 + (1 + reset)) = 9 + reset := by rw [wrap_i64 (by omega) (by omega)]; omega
    have hL : 1 ≤ L ∧ L ≤ 64 := by omega
    clear hLe
    have q1 : okR ⟨L, 1 + reset, true, 0, 0, 0⟩ := ⟨⟨hL.1, hL.2, by show 1 ≤ 1 + reset; omega, by show 1 + reset ≤ 1099511627776; omega⟩, by simp⟩
    have b1 := new_ans L (1 + reset)
    rw [if_pos q1.1, encR] at b1
    have b2 := accept_ans ⟨L, 1 + reset, true, 0, 0, 0⟩ first 7 (by show 0 < _; omega)
    have a1 : argR ⟨L, 1 + reset, true, 0, 0, 0⟩ first 7 := ⟨h1, by omega, by show (0 : Int) ≤ 7; omega⟩
    have e1 : acc ⟨L, 1 + reset, true, 0, 0, 0⟩ first 7 = (⟨L, 1 + reset, false, first, 7, 1⟩, true) := by rw [acc, if_pos (.inl rfl)]
    have q2 := acc_ok q1 a1
    rw [e1] at q2
    rw [accept, if_pos q1, if_pos a1, e1, encR] at b2
    have hf : 0 ≤ (first + 64 + n % 65408) % 65536 ∧ (first + 64 + n % 65408) % 65536 < 65536 := by omega
    have hdl : ¬ (-L < dl first ((first + 64 + n % 65408) % 65536) ∧ dl first ((first + 64 + n % 65408) % 65536) < L) := by unfold dl; omega
    generalize (first + 64 + n % 65408) % 65536 = far at *
    have b3 := accept_ans ⟨L, 1 + reset, false, first, 7, 1⟩ far (8 + reset) (by show 1 < _; omega)
    have a3 : argR ⟨L, 1 + reset, false, first, 7, 1⟩ far (8 + reset) := ⟨hf, by omega, by show (7 : Int) ≤ 8 + reset; omega⟩
    have e3 : acc ⟨L, 1 + reset, false, first, 7, 1⟩ far (8 + reset) = (⟨L, 1 + reset, false, first, 7, 1⟩, false) := by
      rw [acc, if_neg (by simp only [Bool.false_eq_true, false_or]; omega), if_pos hdl]
    rw [accept, if_pos q2, if_pos a3, e3, encR] at b3
    have b4 := accept_ans ⟨L, 1 + reset, false, first, 7, 1⟩ far (9 + reset) (by show 1 < _; omega)
    have a4 : argR ⟨L, 1 + reset, false, first, 7, 1⟩ far (9 + reset) := ⟨hf, by omega, by show (7 : Int) ≤ 9 + reset; omega⟩
    have e4 : acc ⟨L, 1 + reset, false, first, 7, 1⟩ far (9 + reset) = (⟨L, 1 + reset, false, far, 9 + reset, 1⟩, true) := by
      rw [acc, if_pos (.inr (by show 1 + reset < 9 + reset - 7; omega))]
    rw [accept, if_pos q2, if_pos a4, e4, encR] at b4
    simp only [nc0, nc1] at b1 b2 b3 b4
    (simp only [il13c, go_sem, reduceIte, Nat.reduceEqDiff, Nat.reduceAdd, Int.reduceEq, Nat.reduceLeDiff, Nat.reduceLT, pol_inl, polInl, polSite, Nat.reduceBEq, Nat.reduceMul, Nat.reduceSub, Int.reduceToNat, Int.reduceLE, Int.reduceLT, Int.reduceAdd, Int.reduceSub, Int.reduceMul, Int.reduceNeg, Int.reduceDiv, Int.reduceMod, Int.reduceTDiv, Int.reduceTMod, pol_inlT, Int.reducePow, pol_inlS, binE_agg, binE_slc, binE_nil, binE_msn, slB_eq, slB_ne, eqV_app, eqR_eq, eqR_ne, rho_tmp, mkSl_app, raw13_12_23, eqT31, eqT65, eqT46, eqT50, he, bxR, w1, t1, u1, u2, u3, u4, u5, u6, t2, u7, t3, u8, u9, b1, b2, b3, b4] <;> (repeat' ((first | with_reducible refine brG_intro (fun hc => ?_) (fun hc => ?_) | with_reducible refine brC_intro (fun hc => ?_) (fun hc => ?_) | with_reducible refine c_opsD ?_ | with_reducible refine c_opsT ?_ | ((with_reducible refine and_crit ?_ ?_); rfl) | ((with_reducible refine crit_done ?_); rfl) | with_reducible refine mkC_go (fun _ => ?_) | with_reducible refine mkL_go (fun _ => ?_)) <;> (try simp only [Bool.not_eq_true', Bool.not_eq_false', Bool.not_true, Bool.not_false] at hc) <;> (first | simp only [hc, go_sem, reduceIte, Nat.reduceEqDiff, Nat.reduceAdd, Int.reduceEq, Nat.reduceLeDiff, Nat.reduceLT, pol_inl, polInl, polSite, Nat.reduceBEq, Nat.reduceMul, Nat.reduceSub, Int.reduceToNat, Int.reduceLE, Int.reduceLT, Int.reduceAdd, Int.reduceSub, Int.reduceMul, Int.reduceNeg, Int.reduceDiv, Int.reduceMod, Int.reduceTDiv, Int.reduceTMod, pol_inlT, Int.reducePow, pol_inlS, binE_agg, binE_slc, binE_nil, binE_msn, slB_eq, slB_ne, eqV_app, eqR_eq, eqR_ne, rho_tmp, mkSl_app, raw13_12_23, eqT31, eqT65, eqT46, eqT50, he, bxR, w1, t1, u1, u2, u3, u4, u5, u6, t2, u7, t3, u8, u9, b1, b2, b3, b4] | simp only [go_sem, reduceIte, Nat.reduceEqDiff, Nat.reduceAdd, Int.reduceEq, Nat.reduceLeDiff, Nat.reduceLT, pol_inl, polInl, polSite, Nat.reduceBEq, Nat.reduceMul, Nat.reduceSub, Int.reduceToNat, Int.reduceLE, Int.reduceLT, Int.reduceAdd, Int.reduceSub, Int.reduceMul, Int.reduceNeg, Int.reduceDiv, Int.reduceMod, Int.reduceTDiv, Int.reduceTMod, pol_inlT, Int.reducePow, pol_inlS, binE_agg, binE_slc, binE_nil, binE_msn, slB_eq, slB_ne, eqV_app, eqR_eq, eqR_ne, rho_tmp, mkSl_app, raw13_12_23, eqT31, eqT65, eqT46, eqT50, he, bxR, w1, t1, u1, u2, u3, u4, u5, u6, t2, u7, t3, u8, u9, b1, b2, b3, b4] | skip))))

end Go.Proofs.Ytkamfflnfnjbeaa
