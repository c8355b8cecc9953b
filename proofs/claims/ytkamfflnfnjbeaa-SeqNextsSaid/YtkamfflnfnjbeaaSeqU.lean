/- The law SeqNexts. -/
import Derived.Test.YtkamfflnfnjbeaaSeqF
import Derived.Test.YtkamfflnfnjbeaaSeqG
import Derived.Test.YtkamfflnfnjbeaaAbsFill
import Derived.Test.YtkamfflnfnjbeaaWorks39
namespace Go.Proofs.Ytkamfflnfnjbeaa
open Go Go.Abs
set_option linter.unusedSimpArgs false
set_option linter.unusedVariables false
set_option maxRecDepth 100000
set_option maxHeartbeats 4000000

theorem same_nil : ans Try.prog pol 29 [nilT, nilT] = some (.sc (.bool true)) := by
  refine ans_go 30 1 il29_eq (Nat.le_of_ble_eq_true rfl) ?_
  (simp only [il29c, go_sem, reduceIte, Nat.reduceEqDiff, Nat.reduceAdd, Int.reduceEq, Nat.reduceLeDiff, Nat.reduceLT, Nat.reduceBEq, Nat.reduceMul, Nat.reduceSub, Int.reduceToNat, Int.reduceLE, Int.reduceLT, Int.reduceAdd, Int.reduceSub, Int.reduceMul, Int.reduceNeg, Int.reduceDiv, Int.reduceMod, Int.reduceTDiv, Int.reduceTMod, Int.reducePow] <;> (repeat' ((first | with_reducible refine brG_intro (fun hc => ?_) (fun hc => ?_) | with_reducible refine brC_intro (fun hc => ?_) (fun hc => ?_) | ((with_reducible refine c_opsD ?_); have hc := @List.length_nil Nat) | ((with_reducible refine c_opsT ?_); have hc := @List.length_nil Nat) | ((with_reducible refine and_crit ?_ ?_); rfl; have hc := @List.length_nil Nat) | ((with_reducible refine crit_done ?_); rfl) | ((with_reducible refine mkC_go (fun _ => ?_)); have hc := @List.length_nil Nat) | ((with_reducible refine mkL_go (fun _ => ?_)); have hc := @List.length_nil Nat) | ((with_reducible refine iter_unroll (body := wc _ _ _ _ _ _ il29l0) ?_ ?_); exact Nat.le_of_ble_eq_true rfl; simp only [il29l0_go, il29l0b]; have hc := @List.length_nil Nat)) <;> (try simp only [Bool.not_eq_true', Bool.not_eq_false', Bool.not_true, Bool.not_false] at hc) <;> (try simp only [hc, go_sem, reduceIte, Nat.reduceEqDiff, Nat.reduceAdd, Int.reduceEq, Nat.reduceLeDiff, Nat.reduceLT, Nat.reduceBEq, Nat.reduceMul, Nat.reduceSub, Int.reduceToNat, Int.reduceLE, Int.reduceLT, Int.reduceAdd, Int.reduceSub, Int.reduceMul, Int.reduceNeg, Int.reduceDiv, Int.reduceMod, Int.reduceTDiv, Int.reduceTMod, Int.reducePow]))))

theorem same_ans (l : List Cnt) (hl : l.length ≤ 40) : ans Try.prog pol 29 [.sl false 2 (l.map encC), .sl false 2 (l.map encC)] = some (.sc (.bool true)) := by
  refine ans_go 50 1 il29_eq (Nat.le_of_ble_eq_true rfl) ?_
  (simp only [il29c, go_sem, reduceIte, Nat.reduceEqDiff, Nat.reduceAdd, Int.reduceEq, Nat.reduceLeDiff, Nat.reduceLT, Nat.reduceBEq, Nat.reduceMul, Nat.reduceSub, Int.reduceToNat, Int.reduceLE, Int.reduceLT, Int.reduceAdd, Int.reduceSub, Int.reduceMul, Int.reduceNeg, Int.reduceDiv, Int.reduceMod, Int.reduceTDiv, Int.reduceTMod, Int.reducePow] <;> (repeat' ((first | with_reducible refine brG_intro (fun hc => ?_) (fun hc => ?_) | with_reducible refine brC_intro (fun hc => ?_) (fun hc => ?_) | ((with_reducible refine c_opsD ?_); have hc := @List.length_nil Nat) | ((with_reducible refine c_opsT ?_); have hc := @List.length_nil Nat) | ((with_reducible refine and_crit ?_ ?_); rfl; have hc := @List.length_nil Nat) | ((with_reducible refine crit_done ?_); rfl) | ((with_reducible refine mkC_go (fun _ => ?_)); have hc := @List.length_nil Nat) | ((with_reducible refine mkL_go (fun _ => ?_)); have hc := @List.length_nil Nat)) <;> (try simp only [Bool.not_eq_true', Bool.not_eq_false', Bool.not_true, Bool.not_false] at hc) <;> (try simp only [hc, go_sem, reduceIte, Nat.reduceEqDiff, Nat.reduceAdd, Int.reduceEq, Nat.reduceLeDiff, Nat.reduceLT, Nat.reduceBEq, Nat.reduceMul, Nat.reduceSub, Int.reduceToNat, Int.reduceLE, Int.reduceLT, Int.reduceAdd, Int.reduceSub, Int.reduceMul, Int.reduceNeg, Int.reduceDiv, Int.reduceMod, Int.reduceTDiv, Int.reduceTMod, Int.reducePow]))))
  refine loop_range l encC (step := fun _ c (_ : Unit) => .go ()) (fin := id) (St := fun i z e h => h = [] ∧ e 0 = .t (.sl false 2 (l.map encC)) ∧ e 1 = .t (.sl false 2 (l.map encC)) ∧ e 5 = .t (.sc (.int .i64 (i : Nat))))
    (Ex := fun z x e h => x = .exit 0) (s := ()) (by omega) ?_ ?_ (by omega) ?_ ?_
  · intro i c z e h Y R hm hi hx hget hlt hw ⟨h0, e0, e1, e5⟩ hk
    subst h0
    simp only [ctlK_go] at hk
    (simp only [il29l0_go, il29l0b, go_sem, reduceIte, Nat.reduceEqDiff, Nat.reduceAdd, Int.reduceEq, Nat.reduceLeDiff, Nat.reduceLT, Nat.reduceBEq, Nat.reduceMul, Nat.reduceSub, Int.reduceToNat, Int.reduceLE, Int.reduceLT, Int.reduceAdd, Int.reduceSub, Int.reduceMul, Int.reduceNeg, Int.reduceDiv, Int.reduceMod, Int.reduceTDiv, Int.reduceTMod, Int.reducePow, e0, e1, e5, hget, hlt, hw, encC_cells] <;> (repeat' ((first | with_reducible refine brG_intro (fun hc => ?_) (fun hc => ?_) | with_reducible refine brC_intro (fun hc => ?_) (fun hc => ?_) | ((with_reducible refine c_opsD ?_); have hc := @List.length_nil Nat) | ((with_reducible refine c_opsT ?_); have hc := @List.length_nil Nat) | ((with_reducible refine and_crit ?_ ?_); rfl; have hc := @List.length_nil Nat) | ((with_reducible refine crit_done ?_); rfl) | ((with_reducible refine mkC_go (fun _ => ?_)); have hc := @List.length_nil Nat) | ((with_reducible refine mkL_go (fun _ => ?_)); have hc := @List.length_nil Nat)) <;> (try simp only [Bool.not_eq_true', Bool.not_eq_false', Bool.not_true, Bool.not_false] at hc) <;> (try simp only [hc, go_sem, reduceIte, Nat.reduceEqDiff, Nat.reduceAdd, Int.reduceEq, Nat.reduceLeDiff, Nat.reduceLT, Nat.reduceBEq, Nat.reduceMul, Nat.reduceSub, Int.reduceToNat, Int.reduceLE, Int.reduceLT, Int.reduceAdd, Int.reduceSub, Int.reduceMul, Int.reduceNeg, Int.reduceDiv, Int.reduceMod, Int.reduceTDiv, Int.reduceTMod, Int.reducePow, e0, e1, e5, hget, hlt, hw, encC_cells]))))
    all_goals (refine hk _ _ ?_; simp only [go_sem, reduceIte, Nat.reduceEqDiff, Nat.reduceAdd, Int.reduceEq, Nat.reduceLeDiff, Nat.reduceLT, Nat.reduceBEq, Nat.reduceMul, Nat.reduceSub, Int.reduceToNat, Int.reduceLE, Int.reduceLT, Int.reduceAdd, Int.reduceSub, Int.reduceMul, Int.reduceNeg, Int.reduceDiv, Int.reduceMod, Int.reduceTDiv, Int.reduceTMod, Int.reducePow, e0, e1, e5, hw])
  · intro z e h Y R hlt ⟨h0, e0, e1, e5⟩ hk
    subst h0
    (simp only [il29l0_go, il29l0b, go_sem, reduceIte, Nat.reduceEqDiff, Nat.reduceAdd, Int.reduceEq, Nat.reduceLeDiff, Nat.reduceLT, Nat.reduceBEq, Nat.reduceMul, Nat.reduceSub, Int.reduceToNat, Int.reduceLE, Int.reduceLT, Int.reduceAdd, Int.reduceSub, Int.reduceMul, Int.reduceNeg, Int.reduceDiv, Int.reduceMod, Int.reduceTDiv, Int.reduceTMod, Int.reducePow, e0, e5, hlt] <;> (repeat' ((first | with_reducible refine brG_intro (fun hc => ?_) (fun hc => ?_) | with_reducible refine brC_intro (fun hc => ?_) (fun hc => ?_) | ((with_reducible refine c_opsD ?_); have hc := @List.length_nil Nat) | ((with_reducible refine c_opsT ?_); have hc := @List.length_nil Nat) | ((with_reducible refine and_crit ?_ ?_); rfl; have hc := @List.length_nil Nat) | ((with_reducible refine crit_done ?_); rfl) | ((with_reducible refine mkC_go (fun _ => ?_)); have hc := @List.length_nil Nat) | ((with_reducible refine mkL_go (fun _ => ?_)); have hc := @List.length_nil Nat)) <;> (try simp only [Bool.not_eq_true', Bool.not_eq_false', Bool.not_true, Bool.not_false] at hc) <;> (try simp only [hc, go_sem, reduceIte, Nat.reduceEqDiff, Nat.reduceAdd, Int.reduceEq, Nat.reduceLeDiff, Nat.reduceLT, Nat.reduceBEq, Nat.reduceMul, Nat.reduceSub, Int.reduceToNat, Int.reduceLE, Int.reduceLT, Int.reduceAdd, Int.reduceSub, Int.reduceMul, Int.reduceNeg, Int.reduceDiv, Int.reduceMod, Int.reduceTDiv, Int.reduceTMod, Int.reducePow, e0, e5, hlt]))))
    all_goals (refine hk _ _ _ ?_; simp only [go_sem, reduceIte, Nat.reduceEqDiff, Nat.reduceAdd, Int.reduceEq, Nat.reduceLeDiff, Nat.reduceLT, Nat.reduceBEq, Nat.reduceMul, Nat.reduceSub, Int.reduceToNat, Int.reduceLE, Int.reduceLT, Int.reduceAdd, Int.reduceSub, Int.reduceMul, Int.reduceNeg, Int.reduceDiv, Int.reduceMod, Int.reduceTDiv, Int.reduceTMod, Int.reducePow])
  · simp only [go_sem, reduceIte, Nat.reduceEqDiff, Nat.reduceAdd, Int.reduceEq, Nat.reduceLeDiff, Nat.reduceLT, Nat.reduceBEq, Nat.reduceMul, Nat.reduceSub, Int.reduceToNat, Int.reduceLE, Int.reduceLT, Int.reduceAdd, Int.reduceSub, Int.reduceMul, Int.reduceNeg, Int.reduceDiv, Int.reduceMod, Int.reduceTDiv, Int.reduceTMod, Int.reducePow]
  · intro x e h hx
    subst hx
    (simp only [il29c, go_sem, reduceIte, Nat.reduceEqDiff, Nat.reduceAdd, Int.reduceEq, Nat.reduceLeDiff, Nat.reduceLT, Nat.reduceBEq, Nat.reduceMul, Nat.reduceSub, Int.reduceToNat, Int.reduceLE, Int.reduceLT, Int.reduceAdd, Int.reduceSub, Int.reduceMul, Int.reduceNeg, Int.reduceDiv, Int.reduceMod, Int.reduceTDiv, Int.reduceTMod, Int.reducePow] <;> (repeat' ((first | with_reducible refine brG_intro (fun hc => ?_) (fun hc => ?_) | with_reducible refine brC_intro (fun hc => ?_) (fun hc => ?_) | ((with_reducible refine c_opsD ?_); have hc := @List.length_nil Nat) | ((with_reducible refine c_opsT ?_); have hc := @List.length_nil Nat) | ((with_reducible refine and_crit ?_ ?_); rfl; have hc := @List.length_nil Nat) | ((with_reducible refine crit_done ?_); rfl) | ((with_reducible refine mkC_go (fun _ => ?_)); have hc := @List.length_nil Nat) | ((with_reducible refine mkL_go (fun _ => ?_)); have hc := @List.length_nil Nat)) <;> (try simp only [Bool.not_eq_true', Bool.not_eq_false', Bool.not_true, Bool.not_false] at hc) <;> (try simp only [hc, go_sem, reduceIte, Nat.reduceEqDiff, Nat.reduceAdd, Int.reduceEq, Nat.reduceLeDiff, Nat.reduceLT, Nat.reduceBEq, Nat.reduceMul, Nat.reduceSub, Int.reduceToNat, Int.reduceLE, Int.reduceLT, Int.reduceAdd, Int.reduceSub, Int.reduceMul, Int.reduceNeg, Int.reduceDiv, Int.reduceMod, Int.reduceTDiv, Int.reduceTMod, Int.reducePow]))))

abbrev I6 (n : Int) : T := .sc (.int .i64 n)

theorem nxt_form (x : List Cnt) (s : Int) (hx : x.length ≤ 14) : ∃ t n e, nxt x s = .tup [t, I6 n, I6 e] ∧ ans Try.prog pol 29 [t, t] = some (.sc (.bool true)) := by
  have e1 : ∀ k, ∃ t n e, err3 k = .tup [t, I6 n, I6 e] ∧ ans Try.prog pol 29 [t, t] = some (.sc (.bool true)) := fun k => ⟨_, _, _, rfl, same_nil⟩
  have e2 : ∀ i j n, ∃ t n' e, put3 x i j s n = .tup [t, I6 n', I6 e] ∧ ans Try.prog pol 29 [t, t] = some (.sc (.bool true)) := fun i j n => ⟨_, _, _, rfl, same_ans _ (by simp; have := Nat.min_le_right i x.length; omega)⟩
  unfold nxt
  split
  · exact e1 _
  · split
    · exact e1 _
    · split
      · split
        · exact e2 _ _ _
        · split
          · exact e1 _
          · exact e2 _ _ _
      · split
        · exact e1 _
        · exact e2 _ _ _

theorem nexts_in (x : List Cnt) (hx : x.length ≤ 14) (I : Inl) (h : Heap) (s0 s1 s2 : Int) (A B C D G : AV) (R : Xit → FEnv → Heap → Prop) (e : FEnv)
    (he : e 2 = A ∧ e 4 = B ∧ e 8 = C ∧ e 14 = .t (.sl false 2 (x.map encC)) ∧ e 47 = D ∧ e 48 = G ∧ e 73 = .t (.agg [I6 s0, I6 s1, I6 s2]) ∧ e 74 = .t (I6 0))
    (hR : ∀ e, (e 2 = A ∧ e 4 = B ∧ e 8 = C ∧ e 47 = D ∧ e 48 = G) → R (.exit 2) e h) :
    wpIter h.length (some [2, 4, 8, 14, 47, 48, 73, 74]) (wc Try.prog pol (ans Try.prog pol) I 100 8 il8l0) R 100 e h := by
  refine loop_upto 3 (step := fun i (_ : Unit) => Ctl.go ()) (fin := id)
    (St := fun i _ e h' => (e 2 = A ∧ e 4 = B ∧ e 8 = C ∧ e 14 = .t (.sl false 2 (x.map encC)) ∧ e 47 = D ∧ e 48 = G ∧ e 73 = .t (.agg [I6 s0, I6 s1, I6 s2]) ∧ e 74 = .t (I6 (i : Nat))) ∧ h' = h)
    (Ex := fun _ y e h' => (e 2 = A ∧ e 4 = B ∧ e 8 = C ∧ e 47 = D ∧ e 48 = G) ∧ y = .exit 2 ∧ h' = h) (s := ()) (by omega) ?_ ?_ (by omega) ⟨he, rfl⟩ ?_
  · intro i _ e h' Y R hi _ hw ⟨hs, hh⟩ hk
    subst hh
    simp only [ctlK_go] at hk
    have dd : decide ((i : Int) < 3) = true := decide_eq_true (by omega)
    obtain ⟨s, hy⟩ : ∃ s : Int, takeR false 1 ((([I6 s0, I6 s1, I6 s2] : List T).map AV.t).drop (i * 1)) = some (.t (I6 s)) := by
      have h4 : i = 0 ∨ i = 1 ∨ i = 2 := by omega
      rcases h4 with rfl | rfl | rfl
      · exact ⟨s0, rfl⟩
      · exact ⟨s1, rfl⟩
      · exact ⟨s2, rfl⟩
    generalize ([I6 s0, I6 s1, I6 s2] : List T) = ys at hs hy hk
    have c1 := next_ans x s
    have c2 := next'_ans x s (by omega)
    obtain ⟨t, n, er, hn, c3⟩ := nxt_form x s hx
    rw [hn] at c1 c2
    (simp only [il8l0_go, il8l0b, go_sem, reduceIte, Nat.reduceEqDiff, Nat.reduceAdd, Int.reduceEq, Nat.reduceLeDiff, Nat.reduceLT, Nat.reduceBEq, Nat.reduceMul, Nat.reduceSub, Int.reduceToNat, Int.reduceLE, Int.reduceLT, Int.reduceAdd, Int.reduceSub, Int.reduceMul, Int.reduceNeg, Int.reduceDiv, Int.reduceMod, Int.reduceTDiv, Int.reduceTMod, Int.reducePow, hs, hw, dd, hi, hy, c1, c2, c3, decide_true] <;> (repeat' ((first | with_reducible refine brG_intro (fun hc => ?_) (fun hc => ?_) | with_reducible refine brC_intro (fun hc => ?_) (fun hc => ?_) | ((with_reducible refine c_opsD ?_); have hc := @List.length_nil Nat) | ((with_reducible refine c_opsT ?_); have hc := @List.length_nil Nat) | ((with_reducible refine and_crit ?_ ?_); rfl; have hc := @List.length_nil Nat) | ((with_reducible refine crit_done ?_); rfl) | ((with_reducible refine mkC_go (fun _ => ?_)); have hc := @List.length_nil Nat) | ((with_reducible refine mkL_go (fun _ => ?_)); have hc := @List.length_nil Nat)) <;> (try simp only [Bool.not_eq_true', Bool.not_eq_false', Bool.not_true, Bool.not_false] at hc) <;> (try simp only [hc, go_sem, reduceIte, Nat.reduceEqDiff, Nat.reduceAdd, Int.reduceEq, Nat.reduceLeDiff, Nat.reduceLT, Nat.reduceBEq, Nat.reduceMul, Nat.reduceSub, Int.reduceToNat, Int.reduceLE, Int.reduceLT, Int.reduceAdd, Int.reduceSub, Int.reduceMul, Int.reduceNeg, Int.reduceDiv, Int.reduceMod, Int.reduceTDiv, Int.reduceTMod, Int.reducePow, hs, hw, dd, hi, hy, c1, c2, c3, decide_true]))))
    all_goals (refine hk _ _ ⟨?_, rfl⟩; simp only [go_sem, reduceIte, Nat.reduceEqDiff, Nat.reduceAdd, Int.reduceEq, Nat.reduceLeDiff, Nat.reduceLT, Nat.reduceBEq, Nat.reduceMul, Nat.reduceSub, Int.reduceToNat, Int.reduceLE, Int.reduceLT, Int.reduceAdd, Int.reduceSub, Int.reduceMul, Int.reduceNeg, Int.reduceDiv, Int.reduceMod, Int.reduceTDiv, Int.reduceTMod, Int.reducePow, hs, hw])
  · intro _ e h' Y R _ ⟨hs, hh⟩ hk
    subst hh
    have dd : decide ((3 : Int) < 3) = false := rfl
    (simp only [il8l0_go, il8l0b, go_sem, reduceIte, Nat.reduceEqDiff, Nat.reduceAdd, Int.reduceEq, Nat.reduceLeDiff, Nat.reduceLT, Nat.reduceBEq, Nat.reduceMul, Nat.reduceSub, Int.reduceToNat, Int.reduceLE, Int.reduceLT, Int.reduceAdd, Int.reduceSub, Int.reduceMul, Int.reduceNeg, Int.reduceDiv, Int.reduceMod, Int.reduceTDiv, Int.reduceTMod, Int.reducePow, hs, dd] <;> (repeat' ((first | with_reducible refine brG_intro (fun hc => ?_) (fun hc => ?_) | with_reducible refine brC_intro (fun hc => ?_) (fun hc => ?_) | ((with_reducible refine c_opsD ?_); have hc := @List.length_nil Nat) | ((with_reducible refine c_opsT ?_); have hc := @List.length_nil Nat) | ((with_reducible refine and_crit ?_ ?_); rfl; have hc := @List.length_nil Nat) | ((with_reducible refine crit_done ?_); rfl) | ((with_reducible refine mkC_go (fun _ => ?_)); have hc := @List.length_nil Nat) | ((with_reducible refine mkL_go (fun _ => ?_)); have hc := @List.length_nil Nat)) <;> (try simp only [Bool.not_eq_true', Bool.not_eq_false', Bool.not_true, Bool.not_false] at hc) <;> (try simp only [hc, go_sem, reduceIte, Nat.reduceEqDiff, Nat.reduceAdd, Int.reduceEq, Nat.reduceLeDiff, Nat.reduceLT, Nat.reduceBEq, Nat.reduceMul, Nat.reduceSub, Int.reduceToNat, Int.reduceLE, Int.reduceLT, Int.reduceAdd, Int.reduceSub, Int.reduceMul, Int.reduceNeg, Int.reduceDiv, Int.reduceMod, Int.reduceTDiv, Int.reduceTMod, Int.reducePow, hs, dd]))))
    all_goals (refine hk _ _ _ ⟨?_, rfl, rfl⟩; simp only [go_sem, reduceIte, Nat.reduceEqDiff, Nat.reduceAdd, Int.reduceEq, Nat.reduceLeDiff, Nat.reduceLT, Nat.reduceBEq, Nat.reduceMul, Nat.reduceSub, Int.reduceToNat, Int.reduceLE, Int.reduceLT, Int.reduceAdd, Int.reduceSub, Int.reduceMul, Int.reduceNeg, Int.reduceDiv, Int.reduceMod, Int.reduceTDiv, Int.reduceTMod, Int.reducePow, hs])
  · intro z e h' ⟨h1, h2, h3⟩
    subst h2 h3
    exact hR _ h1

theorem nexts_out (x0 x1 x2 : List Cnt) (h0 : x0.length ≤ 14) (h1 : x1.length ≤ 14) (h2 : x2.length ≤ 14) (at_ stream b1 b2 : Int) (hat : 0 ≤ at_ ∧ at_ < 256) (I : Inl) (h : Heap) (R : Xit → FEnv → Heap → Prop) (e : FEnv)
    (he : e 2 = .t (.sc (.int .u8 at_)) ∧ e 4 = .t (I6 stream) ∧ e 8 = .t (.ip [I6 b1, I6 b2]) ∧ e 47 = .t (.agg [.sl false 2 (x0.map encC), .sl false 2 (x1.map encC), .sl false 2 (x2.map encC)]) ∧ e 48 = .t (I6 0))
    (hR : ∀ e, R (.exit 0) e h) : wpIter h.length (some [2, 4, 8, 47, 48]) (wc Try.prog pol (ans Try.prog pol) I 100 8 il8l1) R 100 e h := by
  have w1 : IntKind.i64.wrap at_ = at_ := wrap_i64 (by omega) (by omega)
  refine loop_upto 3 (step := fun i (_ : Unit) => Ctl.go ()) (fin := id)
    (St := fun i _ e h' => (e 2 = .t (.sc (.int .u8 at_)) ∧ e 4 = .t (I6 stream) ∧ e 8 = .t (.ip [I6 b1, I6 b2]) ∧ e 47 = .t (.agg [.sl false 2 (x0.map encC), .sl false 2 (x1.map encC), .sl false 2 (x2.map encC)]) ∧ e 48 = .t (I6 (i : Nat))) ∧ h' = h)
    (Ex := fun _ y e h' => y = .exit 0 ∧ h' = h) (s := ()) (by omega) ?_ ?_ (by omega) ⟨he, rfl⟩ ?_
  · intro i _ e h' Y R hi _ hw ⟨hs, hh⟩ hk
    subst hh
    simp only [ctlK_go] at hk
    have dd : decide ((i : Int) < 3) = true := decide_eq_true (by omega)
    obtain ⟨x, hx, hy⟩ : ∃ x : List Cnt, x.length ≤ 14 ∧ takeR false 1 ((([.sl false 2 (x0.map encC), .sl false 2 (x1.map encC), .sl false 2 (x2.map encC)] : List T).map AV.t).drop (i * 1)) = some (.t (.sl false 2 (x.map encC))) := by
      have h4 : i = 0 ∨ i = 1 ∨ i = 2 := by omega
      rcases h4 with rfl | rfl | rfl
      · exact ⟨x0, h0, rfl⟩
      · exact ⟨x1, h1, rfl⟩
      · exact ⟨x2, h2, rfl⟩
    generalize ([.sl false 2 (x0.map encC), .sl false 2 (x1.map encC), .sl false 2 (x2.map encC)] : List T) = ys at hs hy hk
    have c1 := right_ans x (by omega)
    have c2 := check_ans x
    by_cases hb : x.length ≤ 12 ∧ chk 0 x = true
    · rw [if_pos hb] at c2
      have hbb : (chk 0 x && decide (x.length ≤ 12)) = true := by simp [hb]
      rw [hbb] at c1
      (simp only [il8l1_go, il8l1b, go_sem, reduceIte, Nat.reduceEqDiff, Nat.reduceAdd, Int.reduceEq, Nat.reduceLeDiff, Nat.reduceLT, Nat.reduceBEq, Nat.reduceMul, Nat.reduceSub, Int.reduceToNat, Int.reduceLE, Int.reduceLT, Int.reduceAdd, Int.reduceSub, Int.reduceMul, Int.reduceNeg, Int.reduceDiv, Int.reduceMod, Int.reduceTDiv, Int.reduceTMod, Int.reducePow, hs, hw, dd, hi, hy, c1, c2, w1, decide_true] <;> (repeat' ((first | with_reducible refine brG_intro (fun hc => ?_) (fun hc => ?_) | with_reducible refine brC_intro (fun hc => ?_) (fun hc => ?_) | ((with_reducible refine c_opsD ?_); have hc := @List.length_nil Nat) | ((with_reducible refine c_opsT ?_); have hc := @List.length_nil Nat) | ((with_reducible refine and_crit ?_ ?_); rfl; have hc := @List.length_nil Nat) | ((with_reducible refine crit_done ?_); rfl) | ((with_reducible refine mkC_go (fun _ => ?_)); have hc := @List.length_nil Nat) | ((with_reducible refine mkL_go (fun _ => ?_)); have hc := @List.length_nil Nat)) <;> (try simp only [Bool.not_eq_true', Bool.not_eq_false', Bool.not_true, Bool.not_false] at hc) <;> (try simp only [hc, go_sem, reduceIte, Nat.reduceEqDiff, Nat.reduceAdd, Int.reduceEq, Nat.reduceLeDiff, Nat.reduceLT, Nat.reduceBEq, Nat.reduceMul, Nat.reduceSub, Int.reduceToNat, Int.reduceLE, Int.reduceLT, Int.reduceAdd, Int.reduceSub, Int.reduceMul, Int.reduceNeg, Int.reduceDiv, Int.reduceMod, Int.reduceTDiv, Int.reduceTMod, Int.reducePow, hs, hw, dd, hi, hy, c1, c2, w1, decide_true]))))
      refine nexts_in x hx I h' _ _ _ _ _ _ _ _ _ _ (by simp only [go_sem, reduceIte, Nat.reduceEqDiff, Nat.reduceAdd, Int.reduceEq, Nat.reduceLeDiff, Nat.reduceLT, Nat.reduceBEq, Nat.reduceMul, Nat.reduceSub, Int.reduceToNat, Int.reduceLE, Int.reduceLT, Int.reduceAdd, Int.reduceSub, Int.reduceMul, Int.reduceNeg, Int.reduceDiv, Int.reduceMod, Int.reduceTDiv, Int.reduceTMod, Int.reducePow, hs]; exact ⟨rfl, rfl, rfl, rfl, rfl, rfl⟩) ?_
      intro e' he'
      (simp only [il8l1_go, il8l1b, go_sem, reduceIte, Nat.reduceEqDiff, Nat.reduceAdd, Int.reduceEq, Nat.reduceLeDiff, Nat.reduceLT, Nat.reduceBEq, Nat.reduceMul, Nat.reduceSub, Int.reduceToNat, Int.reduceLE, Int.reduceLT, Int.reduceAdd, Int.reduceSub, Int.reduceMul, Int.reduceNeg, Int.reduceDiv, Int.reduceMod, Int.reduceTDiv, Int.reduceTMod, Int.reducePow, he', hw] <;> (repeat' ((first | with_reducible refine brG_intro (fun hc => ?_) (fun hc => ?_) | with_reducible refine brC_intro (fun hc => ?_) (fun hc => ?_) | ((with_reducible refine c_opsD ?_); have hc := @List.length_nil Nat) | ((with_reducible refine c_opsT ?_); have hc := @List.length_nil Nat) | ((with_reducible refine and_crit ?_ ?_); rfl; have hc := @List.length_nil Nat) | ((with_reducible refine crit_done ?_); rfl) | ((with_reducible refine mkC_go (fun _ => ?_)); have hc := @List.length_nil Nat) | ((with_reducible refine mkL_go (fun _ => ?_)); have hc := @List.length_nil Nat)) <;> (try simp only [Bool.not_eq_true', Bool.not_eq_false', Bool.not_true, Bool.not_false] at hc) <;> (try simp only [hc, go_sem, reduceIte, Nat.reduceEqDiff, Nat.reduceAdd, Int.reduceEq, Nat.reduceLeDiff, Nat.reduceLT, Nat.reduceBEq, Nat.reduceMul, Nat.reduceSub, Int.reduceToNat, Int.reduceLE, Int.reduceLT, Int.reduceAdd, Int.reduceSub, Int.reduceMul, Int.reduceNeg, Int.reduceDiv, Int.reduceMod, Int.reduceTDiv, Int.reduceTMod, Int.reducePow, he', hw]))))
      all_goals (refine hk _ _ ⟨?_, rfl⟩; simp only [go_sem, reduceIte, Nat.reduceEqDiff, Nat.reduceAdd, Int.reduceEq, Nat.reduceLeDiff, Nat.reduceLT, Nat.reduceBEq, Nat.reduceMul, Nat.reduceSub, Int.reduceToNat, Int.reduceLE, Int.reduceLT, Int.reduceAdd, Int.reduceSub, Int.reduceMul, Int.reduceNeg, Int.reduceDiv, Int.reduceMod, Int.reduceTDiv, Int.reduceTMod, Int.reducePow, he', hw])
    · rw [if_neg hb] at c2
      have hbb : (chk 0 x && decide (x.length ≤ 12)) = false := by
        rw [Bool.and_eq_false_iff]
        by_cases h12 : x.length ≤ 12
        · left; cases hc : chk 0 x with
          | false => rfl
          | true => exact absurd ⟨h12, hc⟩ hb
        · right; exact decide_eq_false h12
      rw [hbb] at c1
      (simp only [il8l1_go, il8l1b, go_sem, reduceIte, Nat.reduceEqDiff, Nat.reduceAdd, Int.reduceEq, Nat.reduceLeDiff, Nat.reduceLT, Nat.reduceBEq, Nat.reduceMul, Nat.reduceSub, Int.reduceToNat, Int.reduceLE, Int.reduceLT, Int.reduceAdd, Int.reduceSub, Int.reduceMul, Int.reduceNeg, Int.reduceDiv, Int.reduceMod, Int.reduceTDiv, Int.reduceTMod, Int.reducePow, hs, hw, dd, hi, hy, c1, c2, w1, decide_true] <;> (repeat' ((first | with_reducible refine brG_intro (fun hc => ?_) (fun hc => ?_) | with_reducible refine brC_intro (fun hc => ?_) (fun hc => ?_) | ((with_reducible refine c_opsD ?_); have hc := @List.length_nil Nat) | ((with_reducible refine c_opsT ?_); have hc := @List.length_nil Nat) | ((with_reducible refine and_crit ?_ ?_); rfl; have hc := @List.length_nil Nat) | ((with_reducible refine crit_done ?_); rfl) | ((with_reducible refine mkC_go (fun _ => ?_)); have hc := @List.length_nil Nat) | ((with_reducible refine mkL_go (fun _ => ?_)); have hc := @List.length_nil Nat)) <;> (try simp only [Bool.not_eq_true', Bool.not_eq_false', Bool.not_true, Bool.not_false] at hc) <;> (try simp only [hc, go_sem, reduceIte, Nat.reduceEqDiff, Nat.reduceAdd, Int.reduceEq, Nat.reduceLeDiff, Nat.reduceLT, Nat.reduceBEq, Nat.reduceMul, Nat.reduceSub, Int.reduceToNat, Int.reduceLE, Int.reduceLT, Int.reduceAdd, Int.reduceSub, Int.reduceMul, Int.reduceNeg, Int.reduceDiv, Int.reduceMod, Int.reduceTDiv, Int.reduceTMod, Int.reducePow, hs, hw, dd, hi, hy, c1, c2, w1, decide_true]))))
      refine nexts_in x hx I h' _ _ _ _ _ _ _ _ _ _ (by simp only [go_sem, reduceIte, Nat.reduceEqDiff, Nat.reduceAdd, Int.reduceEq, Nat.reduceLeDiff, Nat.reduceLT, Nat.reduceBEq, Nat.reduceMul, Nat.reduceSub, Int.reduceToNat, Int.reduceLE, Int.reduceLT, Int.reduceAdd, Int.reduceSub, Int.reduceMul, Int.reduceNeg, Int.reduceDiv, Int.reduceMod, Int.reduceTDiv, Int.reduceTMod, Int.reducePow, hs]; exact ⟨rfl, rfl, rfl, rfl, rfl, rfl⟩) ?_
      intro e' he'
      (simp only [il8l1_go, il8l1b, go_sem, reduceIte, Nat.reduceEqDiff, Nat.reduceAdd, Int.reduceEq, Nat.reduceLeDiff, Nat.reduceLT, Nat.reduceBEq, Nat.reduceMul, Nat.reduceSub, Int.reduceToNat, Int.reduceLE, Int.reduceLT, Int.reduceAdd, Int.reduceSub, Int.reduceMul, Int.reduceNeg, Int.reduceDiv, Int.reduceMod, Int.reduceTDiv, Int.reduceTMod, Int.reducePow, he', hw] <;> (repeat' ((first | with_reducible refine brG_intro (fun hc => ?_) (fun hc => ?_) | with_reducible refine brC_intro (fun hc => ?_) (fun hc => ?_) | ((with_reducible refine c_opsD ?_); have hc := @List.length_nil Nat) | ((with_reducible refine c_opsT ?_); have hc := @List.length_nil Nat) | ((with_reducible refine and_crit ?_ ?_); rfl; have hc := @List.length_nil Nat) | ((with_reducible refine crit_done ?_); rfl) | ((with_reducible refine mkC_go (fun _ => ?_)); have hc := @List.length_nil Nat) | ((with_reducible refine mkL_go (fun _ => ?_)); have hc := @List.length_nil Nat)) <;> (try simp only [Bool.not_eq_true', Bool.not_eq_false', Bool.not_true, Bool.not_false] at hc) <;> (try simp only [hc, go_sem, reduceIte, Nat.reduceEqDiff, Nat.reduceAdd, Int.reduceEq, Nat.reduceLeDiff, Nat.reduceLT, Nat.reduceBEq, Nat.reduceMul, Nat.reduceSub, Int.reduceToNat, Int.reduceLE, Int.reduceLT, Int.reduceAdd, Int.reduceSub, Int.reduceMul, Int.reduceNeg, Int.reduceDiv, Int.reduceMod, Int.reduceTDiv, Int.reduceTMod, Int.reducePow, he', hw]))))
      all_goals (refine hk _ _ ⟨?_, rfl⟩; simp only [go_sem, reduceIte, Nat.reduceEqDiff, Nat.reduceAdd, Int.reduceEq, Nat.reduceLeDiff, Nat.reduceLT, Nat.reduceBEq, Nat.reduceMul, Nat.reduceSub, Int.reduceToNat, Int.reduceLE, Int.reduceLT, Int.reduceAdd, Int.reduceSub, Int.reduceMul, Int.reduceNeg, Int.reduceDiv, Int.reduceMod, Int.reduceTDiv, Int.reduceTMod, Int.reducePow, he', hw])
  · intro _ e h' Y R _ ⟨hs, hh⟩ hk
    subst hh
    have dd : decide ((3 : Int) < 3) = false := rfl
    (simp only [il8l1_go, il8l1b, go_sem, reduceIte, Nat.reduceEqDiff, Nat.reduceAdd, Int.reduceEq, Nat.reduceLeDiff, Nat.reduceLT, Nat.reduceBEq, Nat.reduceMul, Nat.reduceSub, Int.reduceToNat, Int.reduceLE, Int.reduceLT, Int.reduceAdd, Int.reduceSub, Int.reduceMul, Int.reduceNeg, Int.reduceDiv, Int.reduceMod, Int.reduceTDiv, Int.reduceTMod, Int.reducePow, hs, dd] <;> (repeat' ((first | with_reducible refine brG_intro (fun hc => ?_) (fun hc => ?_) | with_reducible refine brC_intro (fun hc => ?_) (fun hc => ?_) | ((with_reducible refine c_opsD ?_); have hc := @List.length_nil Nat) | ((with_reducible refine c_opsT ?_); have hc := @List.length_nil Nat) | ((with_reducible refine and_crit ?_ ?_); rfl; have hc := @List.length_nil Nat) | ((with_reducible refine crit_done ?_); rfl) | ((with_reducible refine mkC_go (fun _ => ?_)); have hc := @List.length_nil Nat) | ((with_reducible refine mkL_go (fun _ => ?_)); have hc := @List.length_nil Nat)) <;> (try simp only [Bool.not_eq_true', Bool.not_eq_false', Bool.not_true, Bool.not_false] at hc) <;> (try simp only [hc, go_sem, reduceIte, Nat.reduceEqDiff, Nat.reduceAdd, Int.reduceEq, Nat.reduceLeDiff, Nat.reduceLT, Nat.reduceBEq, Nat.reduceMul, Nat.reduceSub, Int.reduceToNat, Int.reduceLE, Int.reduceLT, Int.reduceAdd, Int.reduceSub, Int.reduceMul, Int.reduceNeg, Int.reduceDiv, Int.reduceMod, Int.reduceTDiv, Int.reduceTMod, Int.reducePow, hs, dd]))))
    all_goals (refine hk _ _ _ ⟨?_, rfl⟩; simp only [go_sem, reduceIte, Nat.reduceEqDiff, Nat.reduceAdd, Int.reduceEq, Nat.reduceLeDiff, Nat.reduceLT, Nat.reduceBEq, Nat.reduceMul, Nat.reduceSub, Int.reduceToNat, Int.reduceLE, Int.reduceLT, Int.reduceAdd, Int.reduceSub, Int.reduceMul, Int.reduceNeg, Int.reduceDiv, Int.reduceMod, Int.reduceTDiv, Int.reduceTMod, Int.reducePow, hs])
  · intro z e h' ⟨h1, h2⟩
    subst h1 h2
    exact hR _

theorem clone_nil (c : Bool) (k : Nat) : ans Try.prog pol 26 [.sl c k []] = some (.sl false k []) := ans_prim rfl

theorem seqNexts_ans (l : List Cnt) (d : List Cnt) (hd : d.length < 9223372036854775808) (hdc : ∀ c ∈ d, (0 ≤ c.1 ∧ c.1 < 65536) ∧ 0 ≤ c.2 ∧ c.2 < 65536) (at_ : Int) (hat : 0 ≤ at_ ∧ at_ < 256) (b : Cnt) (stream : Int) :
    ans Try.prog pol 8 [.sl false 2 (l.map encC), .sl false 2 (d.map encD), .sc (.int .u8 at_), encC b, I6 stream] = some (.sc (.bool true)) := by
  have hown := (lstD_ok d hdc).2
  have c1 := list_ans d hd hdc
  generalize lstD d = own at c1 hown
  have hmin : (if (14 : Int) < (l.length : Nat) then 14 else ((l.length : Nat) : Int)) = ((min l.length 14 : Nat) : Int) := by split <;> omega
  have htake : (l.map encC).take (min l.length 14) = (l.take 14).map encC := by
    rw [← List.map_take]; congr 1
    by_cases h : l.length ≤ 14
    · rw [Nat.min_eq_left h, List.take_of_length_le (Nat.le_refl _), List.take_of_length_le h]
    · rw [Nat.min_eq_right (by omega)]
  have hle : min l.length 14 ≤ l.length := Nat.min_le_left _ _
  have hlen : (l.take 14).length ≤ 14 := by simp; omega
  generalize l.take 14 = l' at htake hlen
  obtain ⟨b1, b2⟩ := b
  simp only [encC]
  cases own with
  | nil =>
    have c2 := clone_nil false 2
    refine ans_go 100 2 il8_eq (Nat.le_of_ble_eq_true rfl) ?_
    have d0 : decide ((0 : Int) < ((0 : Nat) : Int)) = false := rfl
    (simp only [il8c, go_sem, reduceIte, Nat.reduceEqDiff, Nat.reduceAdd, Int.reduceEq, Nat.reduceLeDiff, Nat.reduceLT, Nat.reduceBEq, Nat.reduceMul, Nat.reduceSub, Int.reduceToNat, Int.reduceLE, Int.reduceLT, Int.reduceAdd, Int.reduceSub, Int.reduceMul, Int.reduceNeg, Int.reduceDiv, Int.reduceMod, Int.reduceTDiv, Int.reduceTMod, Int.reducePow, works39_ans, c1, c2, hmin, htake, hle, d0] <;> (repeat' ((first | with_reducible refine brG_intro (fun hc => ?_) (fun hc => ?_) | with_reducible refine brC_intro (fun hc => ?_) (fun hc => ?_) | ((with_reducible refine c_opsD ?_); have hc := @List.length_nil Nat) | ((with_reducible refine c_opsT ?_); have hc := @List.length_nil Nat) | ((with_reducible refine and_crit ?_ ?_); rfl; have hc := @List.length_nil Nat) | ((with_reducible refine crit_done ?_); rfl) | ((with_reducible refine mkC_go (fun _ => ?_)); have hc := @List.length_nil Nat) | ((with_reducible refine mkL_go (fun _ => ?_)); have hc := @List.length_nil Nat)) <;> (try simp only [Bool.not_eq_true', Bool.not_eq_false', Bool.not_true, Bool.not_false] at hc) <;> (try simp only [hc, go_sem, reduceIte, Nat.reduceEqDiff, Nat.reduceAdd, Int.reduceEq, Nat.reduceLeDiff, Nat.reduceLT, Nat.reduceBEq, Nat.reduceMul, Nat.reduceSub, Int.reduceToNat, Int.reduceLE, Int.reduceLT, Int.reduceAdd, Int.reduceSub, Int.reduceMul, Int.reduceNeg, Int.reduceDiv, Int.reduceMod, Int.reduceTDiv, Int.reduceTMod, Int.reducePow, works39_ans, c1, c2, hmin, htake, hle, d0]))))
    refine nexts_out l' [] [] hlen (by simp) (by simp) at_ stream b1 b2 hat _ [] _ _ (by simp only [go_sem, reduceIte, Nat.reduceEqDiff, Nat.reduceAdd, Int.reduceEq, Nat.reduceLeDiff, Nat.reduceLT, Nat.reduceBEq, Nat.reduceMul, Nat.reduceSub, Int.reduceToNat, Int.reduceLE, Int.reduceLT, Int.reduceAdd, Int.reduceSub, Int.reduceMul, Int.reduceNeg, Int.reduceDiv, Int.reduceMod, Int.reduceTDiv, Int.reduceTMod, Int.reducePow]) ?_
    intro e
    (simp only [il8c, go_sem, reduceIte, Nat.reduceEqDiff, Nat.reduceAdd, Int.reduceEq, Nat.reduceLeDiff, Nat.reduceLT, Nat.reduceBEq, Nat.reduceMul, Nat.reduceSub, Int.reduceToNat, Int.reduceLE, Int.reduceLT, Int.reduceAdd, Int.reduceSub, Int.reduceMul, Int.reduceNeg, Int.reduceDiv, Int.reduceMod, Int.reduceTDiv, Int.reduceTMod, Int.reducePow] <;> (repeat' ((first | with_reducible refine brG_intro (fun hc => ?_) (fun hc => ?_) | with_reducible refine brC_intro (fun hc => ?_) (fun hc => ?_) | ((with_reducible refine c_opsD ?_); have hc := @List.length_nil Nat) | ((with_reducible refine c_opsT ?_); have hc := @List.length_nil Nat) | ((with_reducible refine and_crit ?_ ?_); rfl; have hc := @List.length_nil Nat) | ((with_reducible refine crit_done ?_); rfl) | ((with_reducible refine mkC_go (fun _ => ?_)); have hc := @List.length_nil Nat) | ((with_reducible refine mkL_go (fun _ => ?_)); have hc := @List.length_nil Nat)) <;> (try simp only [Bool.not_eq_true', Bool.not_eq_false', Bool.not_true, Bool.not_false] at hc) <;> (try simp only [hc, go_sem, reduceIte, Nat.reduceEqDiff, Nat.reduceAdd, Int.reduceEq, Nat.reduceLeDiff, Nat.reduceLT, Nat.reduceBEq, Nat.reduceMul, Nat.reduceSub, Int.reduceToNat, Int.reduceLE, Int.reduceLT, Int.reduceAdd, Int.reduceSub, Int.reduceMul, Int.reduceNeg, Int.reduceDiv, Int.reduceMod, Int.reduceTDiv, Int.reduceTMod, Int.reducePow]))))
  | cons o os =>
    obtain ⟨o1, o2⟩ := o
    simp only [List.length_cons] at hown
    obtain ⟨at_, rfl⟩ := Int.eq_ofNat_of_zero_le hat.1
    have v1 : IntKind.i64.wrap (at_ : Nat) = (at_ : Int) := wrap_i64 (by omega) (by omega)
    have t1 : (at_ : Int).tmod ((os.length + 1 : Nat) : Int) = ((at_ % (os.length + 1) : Nat) : Int) := by rw [Int.tmod_eq_emod_of_nonneg (by omega)]; rfl
    have hjb : at_ % (os.length + 1) < os.length + 1 := Nat.mod_lt _ (by omega)
    generalize at_ % (os.length + 1) = j at t1 hjb
    have v2 : IntKind.i64.wrap (j : Int) = j := wrap_i64 (by omega) (by omega)
    have z1 : ¬ ((os.length + 1 : Nat) : Int) = 0 := by omega
    have d0 : decide ((0 : Int) < ((os.length + 1 : Nat) : Int)) = true := decide_eq_true (by omega)
    have hroom : (os.length + 1) * 16 ≤ roomB := ap_room (by omega) (by omega)
    obtain ⟨old, hold⟩ : ∃ w, ((o1, o2) :: os)[j]? = some w := ⟨((o1, o2) :: os)[j]'(by simp; omega), by simp⟩
    have hget : (AV.t (.agg [I6 o1, I6 o2]) :: (os.map encC).map AV.t)[j]? = some (.t (.agg [I6 old.1, I6 old.2])) := map_get (enc := encC) hold
    have hst := map_set (enc := encC) (l := (o1, o2) :: os) (i := j) (x := (b1, b2))
    simp only [List.map_cons, encC] at hst
    have hBl : (((o1, o2) :: os).set j (b1, b2)).length = os.length + 1 := by simp
    generalize ((o1, o2) :: os).set j (b1, b2) = B0 at hst hBl
    refine ans_go 100 2 il8_eq (Nat.le_of_ble_eq_true rfl) ?_
    simp only [List.map_cons, encC] at c1
    have hz : frz [.row 2 ((B0.map encC).map .t) (os.length + 1)] (fun o => o == 0) (.ms 0 (os.length + 1) 0 (os.length + 1) 2 false) = some (.t (.sl false 2 (B0.map encC))) := frz_msr rfl rfl (Nat.le_refl _) hBl.symm
    (simp only [il8c, go_sem, reduceIte, Nat.reduceEqDiff, Nat.reduceAdd, Int.reduceEq, Nat.reduceLeDiff, Nat.reduceLT, Nat.reduceBEq, Nat.reduceMul, Nat.reduceSub, Int.reduceToNat, Int.reduceLE, Int.reduceLT, Int.reduceAdd, Int.reduceSub, Int.reduceMul, Int.reduceNeg, Int.reduceDiv, Int.reduceMod, Int.reduceTDiv, Int.reduceTMod, Int.reducePow, works39_ans, c1, hmin, htake, hle, d0, v1, t1, v2, z1, hroom, hjb, hget, hst, hBl, encC, hz] <;> (repeat' ((first | with_reducible refine brG_intro (fun hc => ?_) (fun hc => ?_) | with_reducible refine brC_intro (fun hc => ?_) (fun hc => ?_) | ((with_reducible refine c_opsD ?_); have hc := @List.length_nil Nat) | ((with_reducible refine c_opsT ?_); have hc := @List.length_nil Nat) | ((with_reducible refine and_crit ?_ ?_); rfl; have hc := @List.length_nil Nat) | ((with_reducible refine crit_done ?_); rfl) | ((with_reducible refine mkC_go (fun _ => ?_)); have hc := @List.length_nil Nat) | ((with_reducible refine mkL_go (fun _ => ?_)); have hc := @List.length_nil Nat) | ((with_reducible refine oB_inl il26_eq ?_ ?_); exact Nat.le_of_ble_eq_true rfl; simp only [il26c]; have hc := @List.length_nil Nat)) <;> (try simp only [Bool.not_eq_true', Bool.not_eq_false', Bool.not_true, Bool.not_false] at hc) <;> (try simp only [hc, go_sem, reduceIte, Nat.reduceEqDiff, Nat.reduceAdd, Int.reduceEq, Nat.reduceLeDiff, Nat.reduceLT, Nat.reduceBEq, Nat.reduceMul, Nat.reduceSub, Int.reduceToNat, Int.reduceLE, Int.reduceLT, Int.reduceAdd, Int.reduceSub, Int.reduceMul, Int.reduceNeg, Int.reduceDiv, Int.reduceMod, Int.reduceTDiv, Int.reduceTMod, Int.reducePow, works39_ans, c1, hmin, htake, hle, d0, v1, t1, v2, z1, hroom, hjb, hget, hst, hBl, encC, hz]))))
    refine nexts_out l' ((o1, o2) :: os) B0 hlen (by simp; omega) (by omega) (at_ : Nat) stream b1 b2 hat _ [.gone] _ _ (by simp only [go_sem, reduceIte, Nat.reduceEqDiff, Nat.reduceAdd, Int.reduceEq, Nat.reduceLeDiff, Nat.reduceLT, Nat.reduceBEq, Nat.reduceMul, Nat.reduceSub, Int.reduceToNat, Int.reduceLE, Int.reduceLT, Int.reduceAdd, Int.reduceSub, Int.reduceMul, Int.reduceNeg, Int.reduceDiv, Int.reduceMod, Int.reduceTDiv, Int.reduceTMod, Int.reducePow]; rfl) ?_
    intro e
    (simp only [il8c, go_sem, reduceIte, Nat.reduceEqDiff, Nat.reduceAdd, Int.reduceEq, Nat.reduceLeDiff, Nat.reduceLT, Nat.reduceBEq, Nat.reduceMul, Nat.reduceSub, Int.reduceToNat, Int.reduceLE, Int.reduceLT, Int.reduceAdd, Int.reduceSub, Int.reduceMul, Int.reduceNeg, Int.reduceDiv, Int.reduceMod, Int.reduceTDiv, Int.reduceTMod, Int.reducePow] <;> (repeat' ((first | with_reducible refine brG_intro (fun hc => ?_) (fun hc => ?_) | with_reducible refine brC_intro (fun hc => ?_) (fun hc => ?_) | ((with_reducible refine c_opsD ?_); have hc := @List.length_nil Nat) | ((with_reducible refine c_opsT ?_); have hc := @List.length_nil Nat) | ((with_reducible refine and_crit ?_ ?_); rfl; have hc := @List.length_nil Nat) | ((with_reducible refine crit_done ?_); rfl) | ((with_reducible refine mkC_go (fun _ => ?_)); have hc := @List.length_nil Nat) | ((with_reducible refine mkL_go (fun _ => ?_)); have hc := @List.length_nil Nat)) <;> (try simp only [Bool.not_eq_true', Bool.not_eq_false', Bool.not_true, Bool.not_false] at hc) <;> (try simp only [hc, go_sem, reduceIte, Nat.reduceEqDiff, Nat.reduceAdd, Int.reduceEq, Nat.reduceLeDiff, Nat.reduceLT, Nat.reduceBEq, Nat.reduceMul, Nat.reduceSub, Int.reduceToNat, Int.reduceLE, Int.reduceLT, Int.reduceAdd, Int.reduceSub, Int.reduceMul, Int.reduceNeg, Int.reduceDiv, Int.reduceMod, Int.reduceTDiv, Int.reduceTMod, Int.reducePow]))))

end Go.Proofs.Ytkamfflnfnjbeaa
