/- The law AuditFirst. -/
import Derived.Test.YthcaepnclhgkmaaDoorAuM
import Derived.Test.YthcaepnclhgkmaaDoorAuC
namespace Go.Proofs.YthcaepnclhgkmaaDoor
open Go Go.Abs
set_option linter.unusedSimpArgs false
set_option linter.unusedVariables false
set_option maxRecDepth 100000
set_option maxHeartbeats 4000000

theorem refT_some {rs : List Ru} {log : List Nt} {end_ : Int} {y : Int × Nat × Nt} (h : refF rs [] log = some y) : refT rs log end_ = fltT y := by unfold refT; rw [h]
theorem refT_none {rs : List Ru} {log : List Nt} {end_ : Int} (h : refF rs [] log = none) : ∃ a b c d, refT rs log end_ = .agg [J a, J b, J c, J d] ∧ (a = 0 ∨ a = 8) := by
  unfold refT
  rw [h]
  show ∃ a b c d, lostT (lostF rs log end_) = _ ∧ _
  cases lostF rs log end_ with
  | none => exact ⟨0, 0, 0, 0, rfl, .inl rfl⟩
  | some ix => exact ⟨8, (ix.1 : Nat), ix.2.s, ix.2.q, rfl, .inr rfl⟩

theorem frz_rowM {α : Type} {k mr : Nat} {enc : α → T} {l : List α} {h : Heap} {p : Nat → Bool} : frzObj h p (.row k ((l.map enc).map .t) mr) = some (.row k ((l.map enc).map .t) mr) := by
  simp only [frzObj, av_map, if_true]
theorem frz_rowG {α : Type} {k : Nat} {enc : α → T} {l : List α} {h : Heap} {p : Nat → Bool} : frzObj h p (rowG k enc l) = some (rowG k enc l) := by
  rw [rowG_eq]
  simp only [frzObj, av_map, if_true]

/-- The log of moves that lie in the caller's heap. -/
theorem log_in (t : T) (l : List Mv) (mr : Nat) (hmr : mr ≤ l.length) (hl : l.length < 1000) (h : ∀ m ∈ l, okM m) (nn dd : Nat) (hn : 2000 < nn) (h0 : Heap) (hh0 : h0 = [.row 4 [.t t] 1, .row 5 ((l.map encM).map .t) mr]) (Q : AV → Heap → Prop)
    (hQ : Q (.ms 2 (logF 0 0 l).length 0 (logF 0 0 l).length 4 false) [.row 4 [.t t] 1, .row 5 ((l.map encM).map .t) mr, rowG 4 encN (logF 0 0 l)]) :
    oB (inl Tryd.prog pol (ans Tryd.prog pol) nn (dd + 1) (.fn 11) [.ms 1 l.length 0 l.length 5 false] h0) Q := by
  refine oB_inl il11_eq (Nat.le_of_ble_eq_true rfl) ?_
  subst hh0
  (simp only [il11c, go_sem, reduceIte, Nat.reduceEqDiff, Nat.reduceAdd, Int.reduceEq, Nat.reduceLeDiff, Nat.reduceLT, Nat.reduceBEq, Nat.reduceMul, Nat.reduceSub, Int.reduceToNat, Int.reduceLE, Int.reduceLT, Int.reduceAdd, Int.reduceSub, Int.reduceMul, Int.reduceNeg, Int.reduceDiv, Int.reduceMod, Int.reduceTDiv, Int.reduceTMod, Int.reducePow] <;> (repeat' ((first | with_reducible refine brG_intro (fun hc => ?_) (fun hc => ?_) | with_reducible refine brC_intro (fun hc => ?_) (fun hc => ?_) | ((with_reducible refine c_opsD ?_); have hc := @List.length_nil Nat) | ((with_reducible refine c_opsT ?_); have hc := @List.length_nil Nat) | ((with_reducible refine and_crit ?_ ?_); rfl; have hc := @List.length_nil Nat) | ((with_reducible refine crit_done ?_); rfl) | ((with_reducible refine mkC_go (fun _ => ?_)); have hc := @List.length_nil Nat) | ((with_reducible refine mkL_go (fun _ => ?_)); have hc := @List.length_nil Nat)) <;> (try simp only [Bool.not_eq_true', Bool.not_eq_false', Bool.not_true, Bool.not_false] at hc) <;> (try simp only [hc, go_sem, reduceIte, Nat.reduceEqDiff, Nat.reduceAdd, Int.reduceEq, Nat.reduceLeDiff, Nat.reduceLT, Nat.reduceBEq, Nat.reduceMul, Nat.reduceSub, Int.reduceToNat, Int.reduceLE, Int.reduceLT, Int.reduceAdd, Int.reduceSub, Int.reduceMul, Int.reduceNeg, Int.reduceDiv, Int.reduceMod, Int.reduceTDiv, Int.reduceTMod, Int.reducePow]))))
  refine loop_range l encM (step := fun i m z => if i < 200 then Ctl.go (z.1 ++ [ntM z.2 m], z.2 + m.wait) else Ctl.out z) (fin := id)
    (St := fun i z e h => (e 0 = .ms 1 l.length 0 l.length 5 false ∧ e 3 = .ms 2 z.1.length 0 z.1.length 4 false ∧ e 4 = .t (J z.2) ∧ e 5 = .t (J (i : Nat))) ∧ h = [.row 4 [.t t] 1, .row 5 ((l.map encM).map .t) mr, rowG 4 encN z.1] ∧ (z.1.length ≤ i ∧ i ≤ 200 ∧ 0 ≤ z.2 ∧ z.2 ≤ 255 * (i : Int)))
    (Ex := fun z x e h => (e 3 = .ms 2 z.1.length 0 z.1.length 4 false) ∧ x = .exit 0 ∧ h = [.row 4 [.t t] 1, .row 5 ((l.map encM).map .t) mr, rowG 4 encN z.1]) (s := ([], 0)) (by omega) ?_ ?_ (by omega) ?_ ?_
  · intro i m z e h' Y R hm hi hx hget hlt hw ⟨hs, hh, hz⟩ hk
    subst hh
    have hg2 : ((l.map encM).map AV.t)[i]? = some (.t (encM m)) := map_get (enc := encM) hx
    by_cases h12 : i < 200
    · have d1 : decide ((i : Int) < 200) = true := decide_eq_true (by omega)
      have hc := h m hm
      unfold okM at hc
      have w1 : IntKind.i64.wrap m.wait = m.wait := wrap_i64 (by omega) (by omega)
      have w2 : IntKind.i64.wrap (z.2 + m.wait) = z.2 + m.wait := wrap_i64 (by omega) (by omega)
      have t1 : m.s.tmod 4 = m.s % 4 := Int.tmod_eq_emod_of_nonneg hc.2.1.1
      have t2 : m.q.tmod 16 = m.q % 16 := Int.tmod_eq_emod_of_nonneg hc.2.2.1
      have w3 : IntKind.i64.wrap (m.s % 4) = m.s % 4 := wrap_i64 (by omega) (by omega)
      have w4 : IntKind.i64.wrap (m.q % 16) = m.q % 16 := wrap_i64 (by omega) (by omega)
      have hroom : (z.1.length + 1) * 32 ≤ roomB := ap_room (by omega) (by omega)
      have hz1 : (z.1 ++ [ntM z.2 m]).length ≤ i + 1 ∧ i + 1 ≤ 200 ∧ 0 ≤ z.2 + m.wait ∧ z.2 + m.wait ≤ 255 * ((i + 1 : Nat) : Int) := by
        refine ⟨by simp; omega, by omega, by omega, by push_cast; omega⟩
      have hll : mr ≤ l.length ∧ i < l.length := ⟨hmr, hi⟩
      simp only [if_pos h12, ctlK_go] at hk
      cases hgot : m.got with
      | true =>
        have hn : ntM z.2 m = ⟨2, m.s % 4, m.q % 16, z.2 + m.wait⟩ := by simp [ntM, hgot]
        rw [hn] at hk hz1
        (simp only [il11l0_go, il11l0b, go_sem, reduceIte, Nat.reduceEqDiff, Nat.reduceAdd, Int.reduceEq, Nat.reduceLeDiff, Nat.reduceLT, Nat.reduceBEq, Nat.reduceMul, Nat.reduceSub, Int.reduceToNat, Int.reduceLE, Int.reduceLT, Int.reduceAdd, Int.reduceSub, Int.reduceMul, Int.reduceNeg, Int.reduceDiv, Int.reduceMod, Int.reduceTDiv, Int.reduceTMod, Int.reducePow, hs, hg2, hmr, hi, hlt, hw, encM, tcells_agg, hgot, d1, w1, w2, w3, w4, t1, t2, rowG_is, rowG_es, rowG_mr, hroom, frz_rowM, frz_rowG] <;> (repeat' ((first | with_reducible refine brG_intro (fun hc => ?_) (fun hc => ?_) | with_reducible refine brC_intro (fun hc => ?_) (fun hc => ?_) | ((with_reducible refine c_opsD ?_); have hc := @List.length_nil Nat) | ((with_reducible refine c_opsT ?_); have hc := @List.length_nil Nat) | ((with_reducible refine and_crit ?_ ?_); rfl; have hc := @List.length_nil Nat) | ((with_reducible refine crit_done ?_); rfl) | ((with_reducible refine mkC_go (fun _ => ?_)); have hc := @List.length_nil Nat) | ((with_reducible refine mkL_go (fun _ => ?_)); have hc := @List.length_nil Nat)) <;> (try simp only [Bool.not_eq_true', Bool.not_eq_false', Bool.not_true, Bool.not_false] at hc) <;> (try simp only [hc, go_sem, reduceIte, Nat.reduceEqDiff, Nat.reduceAdd, Int.reduceEq, Nat.reduceLeDiff, Nat.reduceLT, Nat.reduceBEq, Nat.reduceMul, Nat.reduceSub, Int.reduceToNat, Int.reduceLE, Int.reduceLT, Int.reduceAdd, Int.reduceSub, Int.reduceMul, Int.reduceNeg, Int.reduceDiv, Int.reduceMod, Int.reduceTDiv, Int.reduceTMod, Int.reducePow, hs, hg2, hmr, hi, hlt, hw, encM, tcells_agg, hgot, d1, w1, w2, w3, w4, t1, t2, rowG_is, rowG_es, rowG_mr, hroom, frz_rowM, frz_rowG]))))
        all_goals (refine hk _ _ ⟨?_, ?_, hz1⟩ <;> simp only [go_sem, reduceIte, Nat.reduceEqDiff, Nat.reduceAdd, Int.reduceEq, Nat.reduceLeDiff, Nat.reduceLT, Nat.reduceBEq, Nat.reduceMul, Nat.reduceSub, Int.reduceToNat, Int.reduceLE, Int.reduceLT, Int.reduceAdd, Int.reduceSub, Int.reduceMul, Int.reduceNeg, Int.reduceDiv, Int.reduceMod, Int.reduceTDiv, Int.reduceTMod, Int.reducePow, hs, hw, ← rowG_push, encN, List.length_append])
      | false =>
        have hn : ntM z.2 m = ⟨1, m.s % 4, m.q % 16, z.2 + m.wait⟩ := by simp [ntM, hgot]
        rw [hn] at hk hz1
        (simp only [il11l0_go, il11l0b, go_sem, reduceIte, Nat.reduceEqDiff, Nat.reduceAdd, Int.reduceEq, Nat.reduceLeDiff, Nat.reduceLT, Nat.reduceBEq, Nat.reduceMul, Nat.reduceSub, Int.reduceToNat, Int.reduceLE, Int.reduceLT, Int.reduceAdd, Int.reduceSub, Int.reduceMul, Int.reduceNeg, Int.reduceDiv, Int.reduceMod, Int.reduceTDiv, Int.reduceTMod, Int.reducePow, hs, hg2, hmr, hi, hlt, hw, encM, tcells_agg, hgot, d1, w1, w2, w3, w4, t1, t2, rowG_is, rowG_es, rowG_mr, hroom, frz_rowM, frz_rowG] <;> (repeat' ((first | with_reducible refine brG_intro (fun hc => ?_) (fun hc => ?_) | with_reducible refine brC_intro (fun hc => ?_) (fun hc => ?_) | ((with_reducible refine c_opsD ?_); have hc := @List.length_nil Nat) | ((with_reducible refine c_opsT ?_); have hc := @List.length_nil Nat) | ((with_reducible refine and_crit ?_ ?_); rfl; have hc := @List.length_nil Nat) | ((with_reducible refine crit_done ?_); rfl) | ((with_reducible refine mkC_go (fun _ => ?_)); have hc := @List.length_nil Nat) | ((with_reducible refine mkL_go (fun _ => ?_)); have hc := @List.length_nil Nat)) <;> (try simp only [Bool.not_eq_true', Bool.not_eq_false', Bool.not_true, Bool.not_false] at hc) <;> (try simp only [hc, go_sem, reduceIte, Nat.reduceEqDiff, Nat.reduceAdd, Int.reduceEq, Nat.reduceLeDiff, Nat.reduceLT, Nat.reduceBEq, Nat.reduceMul, Nat.reduceSub, Int.reduceToNat, Int.reduceLE, Int.reduceLT, Int.reduceAdd, Int.reduceSub, Int.reduceMul, Int.reduceNeg, Int.reduceDiv, Int.reduceMod, Int.reduceTDiv, Int.reduceTMod, Int.reducePow, hs, hg2, hmr, hi, hlt, hw, encM, tcells_agg, hgot, d1, w1, w2, w3, w4, t1, t2, rowG_is, rowG_es, rowG_mr, hroom, frz_rowM, frz_rowG]))))
        all_goals (refine hk _ _ ⟨?_, ?_, hz1⟩ <;> simp only [go_sem, reduceIte, Nat.reduceEqDiff, Nat.reduceAdd, Int.reduceEq, Nat.reduceLeDiff, Nat.reduceLT, Nat.reduceBEq, Nat.reduceMul, Nat.reduceSub, Int.reduceToNat, Int.reduceLE, Int.reduceLT, Int.reduceAdd, Int.reduceSub, Int.reduceMul, Int.reduceNeg, Int.reduceDiv, Int.reduceMod, Int.reduceTDiv, Int.reduceTMod, Int.reducePow, hs, hw, ← rowG_push, encN, List.length_append])
    · have d1 : decide ((i : Int) < 200) = false := decide_eq_false (by omega)
      simp only [if_neg h12, ctlK_out] at hk
      (simp only [il11l0_go, il11l0b, go_sem, reduceIte, Nat.reduceEqDiff, Nat.reduceAdd, Int.reduceEq, Nat.reduceLeDiff, Nat.reduceLT, Nat.reduceBEq, Nat.reduceMul, Nat.reduceSub, Int.reduceToNat, Int.reduceLE, Int.reduceLT, Int.reduceAdd, Int.reduceSub, Int.reduceMul, Int.reduceNeg, Int.reduceDiv, Int.reduceMod, Int.reduceTDiv, Int.reduceTMod, Int.reducePow, hs, hlt, hw, d1] <;> (repeat' ((first | with_reducible refine brG_intro (fun hc => ?_) (fun hc => ?_) | with_reducible refine brC_intro (fun hc => ?_) (fun hc => ?_) | ((with_reducible refine c_opsD ?_); have hc := @List.length_nil Nat) | ((with_reducible refine c_opsT ?_); have hc := @List.length_nil Nat) | ((with_reducible refine and_crit ?_ ?_); rfl; have hc := @List.length_nil Nat) | ((with_reducible refine crit_done ?_); rfl) | ((with_reducible refine mkC_go (fun _ => ?_)); have hc := @List.length_nil Nat) | ((with_reducible refine mkL_go (fun _ => ?_)); have hc := @List.length_nil Nat)) <;> (try simp only [Bool.not_eq_true', Bool.not_eq_false', Bool.not_true, Bool.not_false] at hc) <;> (try simp only [hc, go_sem, reduceIte, Nat.reduceEqDiff, Nat.reduceAdd, Int.reduceEq, Nat.reduceLeDiff, Nat.reduceLT, Nat.reduceBEq, Nat.reduceMul, Nat.reduceSub, Int.reduceToNat, Int.reduceLE, Int.reduceLT, Int.reduceAdd, Int.reduceSub, Int.reduceMul, Int.reduceNeg, Int.reduceDiv, Int.reduceMod, Int.reduceTDiv, Int.reduceTMod, Int.reducePow, hs, hlt, hw, d1]))))
      all_goals (refine hk _ _ _ ⟨?_, rfl, rfl⟩ <;> simp only [go_sem, reduceIte, Nat.reduceEqDiff, Nat.reduceAdd, Int.reduceEq, Nat.reduceLeDiff, Nat.reduceLT, Nat.reduceBEq, Nat.reduceMul, Nat.reduceSub, Int.reduceToNat, Int.reduceLE, Int.reduceLT, Int.reduceAdd, Int.reduceSub, Int.reduceMul, Int.reduceNeg, Int.reduceDiv, Int.reduceMod, Int.reduceTDiv, Int.reduceTMod, Int.reducePow, hs])
  · intro z e h' Y R hlt ⟨hs, hh, _⟩ hk
    subst hh
    (simp only [il11l0_go, il11l0b, go_sem, reduceIte, Nat.reduceEqDiff, Nat.reduceAdd, Int.reduceEq, Nat.reduceLeDiff, Nat.reduceLT, Nat.reduceBEq, Nat.reduceMul, Nat.reduceSub, Int.reduceToNat, Int.reduceLE, Int.reduceLT, Int.reduceAdd, Int.reduceSub, Int.reduceMul, Int.reduceNeg, Int.reduceDiv, Int.reduceMod, Int.reduceTDiv, Int.reduceTMod, Int.reducePow, hs, hlt] <;> (repeat' ((first | with_reducible refine brG_intro (fun hc => ?_) (fun hc => ?_) | with_reducible refine brC_intro (fun hc => ?_) (fun hc => ?_) | ((with_reducible refine c_opsD ?_); have hc := @List.length_nil Nat) | ((with_reducible refine c_opsT ?_); have hc := @List.length_nil Nat) | ((with_reducible refine and_crit ?_ ?_); rfl; have hc := @List.length_nil Nat) | ((with_reducible refine crit_done ?_); rfl) | ((with_reducible refine mkC_go (fun _ => ?_)); have hc := @List.length_nil Nat) | ((with_reducible refine mkL_go (fun _ => ?_)); have hc := @List.length_nil Nat)) <;> (try simp only [Bool.not_eq_true', Bool.not_eq_false', Bool.not_true, Bool.not_false] at hc) <;> (try simp only [hc, go_sem, reduceIte, Nat.reduceEqDiff, Nat.reduceAdd, Int.reduceEq, Nat.reduceLeDiff, Nat.reduceLT, Nat.reduceBEq, Nat.reduceMul, Nat.reduceSub, Int.reduceToNat, Int.reduceLE, Int.reduceLT, Int.reduceAdd, Int.reduceSub, Int.reduceMul, Int.reduceNeg, Int.reduceDiv, Int.reduceMod, Int.reduceTDiv, Int.reduceTMod, Int.reducePow, hs, hlt]))))
    all_goals (refine hk _ _ _ ⟨?_, rfl, rfl⟩ <;> simp only [go_sem, reduceIte, Nat.reduceEqDiff, Nat.reduceAdd, Int.reduceEq, Nat.reduceLeDiff, Nat.reduceLT, Nat.reduceBEq, Nat.reduceMul, Nat.reduceSub, Int.reduceToNat, Int.reduceLE, Int.reduceLT, Int.reduceAdd, Int.reduceSub, Int.reduceMul, Int.reduceNeg, Int.reduceDiv, Int.reduceMod, Int.reduceTDiv, Int.reduceTMod, Int.reducePow, hs, id])
  · refine ⟨?_, rfl, by simp⟩
    simp only [go_sem, reduceIte, Nat.reduceEqDiff, Nat.reduceAdd, Int.reduceEq, Nat.reduceLeDiff, Nat.reduceLT, Nat.reduceBEq, Nat.reduceMul, Nat.reduceSub, Int.reduceToNat, Int.reduceLE, Int.reduceLT, Int.reduceAdd, Int.reduceSub, Int.reduceMul, Int.reduceNeg, Int.reduceDiv, Int.reduceMod, Int.reduceTDiv, Int.reduceTMod, Int.reducePow]
  · intro x e h' ⟨h1, h2, h3⟩
    subst h2 h3
    rw [log_fold, List.nil_append] at h1 ⊢
    (simp only [il11c, go_sem, reduceIte, Nat.reduceEqDiff, Nat.reduceAdd, Int.reduceEq, Nat.reduceLeDiff, Nat.reduceLT, Nat.reduceBEq, Nat.reduceMul, Nat.reduceSub, Int.reduceToNat, Int.reduceLE, Int.reduceLT, Int.reduceAdd, Int.reduceSub, Int.reduceMul, Int.reduceNeg, Int.reduceDiv, Int.reduceMod, Int.reduceTDiv, Int.reduceTMod, Int.reducePow, h1] <;> (repeat' ((first | with_reducible refine brG_intro (fun hc => ?_) (fun hc => ?_) | with_reducible refine brC_intro (fun hc => ?_) (fun hc => ?_) | ((with_reducible refine c_opsD ?_); have hc := @List.length_nil Nat) | ((with_reducible refine c_opsT ?_); have hc := @List.length_nil Nat) | ((with_reducible refine and_crit ?_ ?_); rfl; have hc := @List.length_nil Nat) | ((with_reducible refine crit_done ?_); rfl) | ((with_reducible refine mkC_go (fun _ => ?_)); have hc := @List.length_nil Nat) | ((with_reducible refine mkL_go (fun _ => ?_)); have hc := @List.length_nil Nat)) <;> (try simp only [Bool.not_eq_true', Bool.not_eq_false', Bool.not_true, Bool.not_false] at hc) <;> (try simp only [hc, go_sem, reduceIte, Nat.reduceEqDiff, Nat.reduceAdd, Int.reduceEq, Nat.reduceLeDiff, Nat.reduceLT, Nat.reduceBEq, Nat.reduceMul, Nat.reduceSub, Int.reduceToNat, Int.reduceLE, Int.reduceLT, Int.reduceAdd, Int.reduceSub, Int.reduceMul, Int.reduceNeg, Int.reduceDiv, Int.reduceMod, Int.reduceTDiv, Int.reduceTMod, Int.reducePow, h1]))))
    exact hQ

theorem lastT_rng {l : List Nt} (h : ∀ x ∈ l, x.t ≤ 51000 ∧ 0 ≤ x.t) : 0 ≤ lastT l ∧ lastT l ≤ 51000 := by
  unfold lastT
  cases hg : l.getLast? with
  | none => exact ⟨by decide, by decide⟩
  | some y => have := h y (List.mem_of_getLast? hg); exact ⟨this.2, this.1⟩

/-- Audit of a part of a log, up to a time behind it. -/
theorem aud_part {S : List Ru} {L : List Nt} (hS : S.length ≤ 12 ∧ chkR 0 S = true) (hL : chkN 0 L = true) (hl : L.length ≤ 200) (hLt : ∀ x ∈ L, x.t ≤ 51000 ∧ 0 ≤ x.t) (cl cl' : Bool) (e : Int) (he : lastT L ≤ e ∧ e ≤ 1099511627776) :
    ans Tryd.prog pol 12 [.sl cl 4 (S.map encR), .sl cl' 4 (L.map encN), J e] = some (.tup [refT S L e, J 0]) := by
  have hr := lastT_rng hLt
  have hok := chkN_ok (Int.le_refl 0) hL
  have := audit_ok cl cl' S L e hS ⟨by omega, hL⟩ (fun h => by rcases h with h | h | h <;> omega)
  rw [aud_eq (fun x hx => (hok x hx).1)] at this
  exact this

theorem auditFirst_none (w : List Wi) (m more : List Mv) (hwl : w.length < 9223372036854775808) (hw : ∀ x ∈ w, okW x) (hm : ∀ x ∈ m, okM x) (hn : refF (someF 0 w) [] (logF 0 0 (m.take 100)) = none) :
    ans Tryd.prog pol 6 [.sl false 3 (w.map encW), .sl false 5 (m.map encM), .sl false 5 (more.map encM)] = some (B true) := by
  have m3 : (if (100 : Int) < (m.length : Nat) then 100 else ((m.length : Nat) : Int)) = ((min m.length 100 : Nat) : Int) := min_k _ 100
  have l3 : min m.length 100 ≤ m.length := Nat.min_le_left _ _
  have t3 := take_min (enc := encM) m 100
  have h3 : (m.take 100).length < 9223372036854775808 := by simp; omega
  have hm' : ∀ x ∈ m.take 100, okM x := fun x hx => hm x (List.mem_of_mem_take hx)
  generalize m.take 100 = m' at t3 h3 hm' hn
  have c1 := some_ans w hwl hw
  have hS := some_ok w 0 hw (by omega)
  have c2 := log_ans m' h3 hm'
  obtain ⟨hLc, hL, hLt⟩ := log_ok m' 0 0 hm' (by omega) (by omega) (by omega)
  generalize someF 0 w = S at c1 hS hn
  generalize logF 0 0 m' = L at c2 hLc hL hLt hn
  have hS' : S.length ≤ 12 ∧ chkR 0 S = true := ⟨by omega, hS.1⟩
  have hLt' : ∀ x ∈ L, x.t ≤ 51000 ∧ 0 ≤ x.t := fun x hx => ⟨(hLt x hx).1, (hLt x hx).2.1⟩
  have hr := lastT_rng hLt'
  obtain ⟨a, b, c, d, hf, ha⟩ := refT_none (end_ := 1099511627776) hn
  have k1 := aud_part hS' hLc (by omega) hLt' false false 1099511627776 (by omega)
  rw [hf] at k1
  have htk : ∀ x ∈ L.take (L.length / 2), x.t ≤ 51000 ∧ 0 ≤ x.t := fun x hx => hLt' x (List.mem_of_mem_take hx)
  have hr2 := lastT_rng htk
  have hn2 : refF S [] (L.take (L.length / 2)) = none := refF_none _ _ (L.drop (L.length / 2)) (by rw [List.take_append_drop]; exact hn)
  obtain ⟨a2, b2, cc2, d2, hf2, ha2⟩ := refT_none (end_ := lastT (L.take (L.length / 2))) hn2
  have k2 := aud_part hS' (chkN_take hLc (L.length / 2)) (by simp; omega) htk false false (lastT (L.take (L.length / 2))) (by omega)
  rw [hf2] at k2
  have k3 := last_ans false (L.take (L.length / 2)) (by simp; omega)
  have q1 : ((L.length : Nat) : Int).tdiv 2 = ((L.length / 2 : Nat) : Int) := by rw [Int.tdiv_eq_ediv_of_nonneg (by omega)]; rfl
  have w1 : IntKind.i64.wrap ((L.length / 2 : Nat) : Int) = ((L.length / 2 : Nat) : Int) := wrap_i64 (by omega) (by omega)
  have w2 : IntKind.i64.wrap (0 + lastT (L.take (L.length / 2))) = lastT (L.take (L.length / 2)) := by rw [wrap_i64 (by omega) (by omega)]; omega
  have l4 : L.length / 2 ≤ L.length := by omega
  have tk : (L.map encN).take (L.length / 2) = (L.take (L.length / 2)).map encN := by rw [List.map_take]
  rcases ha with rfl | rfl <;> rcases ha2 with rfl | rfl
  all_goals refine ans_go 100 2 il6_eq (Nat.le_of_ble_eq_true rfl) ?_
  all_goals (simp only [il6c, go_sem, reduceIte, Nat.reduceEqDiff, Nat.reduceAdd, Int.reduceEq, Nat.reduceLeDiff, Nat.reduceLT, Nat.reduceBEq, Nat.reduceMul, Nat.reduceSub, Int.reduceToNat, Int.reduceLE, Int.reduceLT, Int.reduceAdd, Int.reduceSub, Int.reduceMul, Int.reduceNeg, Int.reduceDiv, Int.reduceMod, Int.reduceTDiv, Int.reduceTMod, Int.reducePow, works44_ans, c1, c2, m3, l3, t3, k1, k2, k3, q1, w1, w2, l4, tk] <;> (repeat' ((first | with_reducible refine brG_intro (fun hc => ?_) (fun hc => ?_) | with_reducible refine brC_intro (fun hc => ?_) (fun hc => ?_) | ((with_reducible refine c_opsD ?_); have hc := @List.length_nil Nat) | ((with_reducible refine c_opsT ?_); have hc := @List.length_nil Nat) | ((with_reducible refine and_crit ?_ ?_); rfl; have hc := @List.length_nil Nat) | ((with_reducible refine crit_done ?_); rfl) | ((with_reducible refine mkC_go (fun _ => ?_)); have hc := @List.length_nil Nat) | ((with_reducible refine mkL_go (fun _ => ?_)); have hc := @List.length_nil Nat)) <;> (try simp only [Bool.not_eq_true', Bool.not_eq_false', Bool.not_true, Bool.not_false] at hc) <;> (try simp only [hc, go_sem, reduceIte, Nat.reduceEqDiff, Nat.reduceAdd, Int.reduceEq, Nat.reduceLeDiff, Nat.reduceLT, Nat.reduceBEq, Nat.reduceMul, Nat.reduceSub, Int.reduceToNat, Int.reduceLE, Int.reduceLT, Int.reduceAdd, Int.reduceSub, Int.reduceMul, Int.reduceNeg, Int.reduceDiv, Int.reduceMod, Int.reduceTDiv, Int.reduceTMod, Int.reducePow, works44_ans, c1, c2, m3, l3, t3, k1, k2, k3, q1, w1, w2, l4, tk]))))

end Go.Proofs.YthcaepnclhgkmaaDoor
