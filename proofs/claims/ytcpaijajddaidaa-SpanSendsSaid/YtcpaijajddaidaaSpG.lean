/- Contracts: Receive, Forget, Tick and their reference. -/
import Derived.Test.YtcpaijajddaidaaSpD
namespace Go.Proofs.Ytcpaijajddaidaa
open Go Go.Abs
set_option linter.unusedSimpArgs false
set_option linter.unusedVariables false
set_option maxRecDepth 100000
set_option maxHeartbeats 4000000

/-- A message, as the seven numbers of it. -/
abbrev heT (h : Hd) : T := .agg [I h.a, I h.b, I h.c, I h.d, I h.e, I h.f, I h.g]
abbrev heC (h : Hd) : List T := [I h.a, I h.b, I h.c, I h.d, I h.e, I h.f, I h.g]
def lt6 (x y : Hd) : Int := cmpL [x.a, x.b, x.c, x.d, x.e, x.f] [y.a, y.b, y.c, y.d, y.e, y.f]
def heardAs (h : Hd) : Hd := ⟨true, h.a, h.b, h.c, h.d, h.e, h.f, h.g⟩
def rcvH (o h : Hd) : Hd := if o.is = false ∨ ((o.d = h.d ∧ o.e = h.e) ∧ o.f = h.f) ∨ lt6 h o ≤ 0 then heardAs h else o
def tickH (h : Hd) : Hd := if h.is = false then h else if 20 < h.g + 1 then zH else ⟨h.is, h.a, h.b, h.c, h.d, h.e, h.f, h.g + 1⟩

theorem compH_ans (x y : Hd) : ans Try.prog pol 37 [.agg [I x.a, I x.b, I x.c, I x.d, I x.e, I x.f], .agg [I y.a, I y.b, I y.c, I y.d, I y.e, I y.f]] = some (I (lt6 x y)) := compare_ans x.a x.b x.c x.d x.e x.f y.a y.b y.c y.d y.e y.f
theorem bettH_ans (x y : Hd) : ans Try.prog pol 50 [.agg [I x.a, I x.b, I x.c, I x.d, I x.e, I x.f], .agg [I y.a, I y.b, I y.c, I y.d, I y.e, I y.f]] = some (B (decide (lt6 x y < 0))) := better'_ans x.a x.b x.c x.d x.e x.f y.a y.b y.c y.d y.e y.f

theorem frz_rowH {α : Type} {k mr : Nat} {enc : α → T} {l : List α} {h : Heap} {p : Nat → Bool} : frzObj h p (.row k ((l.map enc).map .t) mr) = some (.row k ((l.map enc).map .t) mr) := by
  simp only [frzObj, av_map, if_true]
theorem set_same {α : Type} {l : List α} {i : Nat} {x : α} (h : l[i]? = some x) : l.set i x = l := by
  apply List.ext_getElem?
  intro j
  rw [List.getElem?_set]
  by_cases q : i = j
  · subst q; rw [if_pos rfl, if_pos (List.getElem?_eq_some_iff.1 h).1, h]
  · rw [if_neg q]

theorem changedR_ans (c : Bool) (l : List Hd) (hl : l.length ≤ 1000) (i : Nat) (o h : Hd) (ho : l[i]? = some o) : ans Try.prog pol 63 [.sl c 8 (l.map encH), .fn (.func 51) [] [.ip [I (i : Nat)], .ip (heC h)]] = some (.sl true 8 ((l.set i (rcvH o h)).map encH)) := by
  have hi := (List.getElem?_eq_some_iff.1 ho).1
  have hroom : 64 * l.length ≤ roomB := by rw [Nat.mul_comm]; exact ap_room (by omega) (by omega)
  have hbig : l.length ≤ 9223372036854775807 := by omega
  have hcp := cpB_full (size := 8) (n := l.length) (o := 0) (mr := 0) (h := [.row 8 (List.replicate l.length (.t (hdT zH))) 0]) (xs := (l.map encH).map .t) (elems := List.replicate l.length (.t (hdT zH))) (by simp) (by simp) (Nat.zero_le _)
  simp only [zH] at hcp
  have hg : ((l.map encH).map AV.t)[i]? = some (.t (hdT o)) := map_get (enc := encH) ho
  have hst := map_set (enc := encH) (l := l) (i := i) (x := heardAs h)
  simp only [encH, hdT, heardAs] at hst
  have hsl : (l.set i (heardAs h)).length = l.length := by simp
  have k1 := compH_ans h o
  have hsame := set_same ho
  have hset : ∀ q : rcvH o h = heardAs h, (l.set i (rcvH o h)) = l.set i (heardAs h) := fun q => by rw [q]
  have hkeep : ∀ q : rcvH o h = o, (l.set i (rcvH o h)) = l := fun q => by rw [q, hsame]
  by_cases q0 : o.is = false
  · rw [hset (by rw [rcvH, if_pos (.inl q0)])]
    simp only [heardAs] at hsl ⊢
    generalize l.set i ⟨true, h.a, h.b, h.c, h.d, h.e, h.f, h.g⟩ = L at *
    refine ans_go 1 3 il63_eq (Nat.le_of_ble_eq_true rfl) ?_
    (simp only [il63c, go_sem, reduceIte, Nat.reduceEqDiff, Nat.reduceAdd, Int.reduceEq, Nat.reduceLeDiff, Nat.reduceLT, Nat.reduceBEq, Nat.reduceMul, Nat.reduceSub, Int.reduceToNat, Int.reduceLE, Int.reduceLT, Int.reduceAdd, Int.reduceSub, Int.reduceMul, Int.reduceNeg, Int.reduceDiv, Int.reduceMod, Int.reduceTDiv, Int.reduceTMod, Int.reducePow, hroom, hbig, hcp, hg, hi, hst, hsl, q0] <;> (repeat' ((first | with_reducible refine brG_intro (fun hc => ?_) (fun hc => ?_) | with_reducible refine brC_intro (fun hc => ?_) (fun hc => ?_) | ((with_reducible refine c_opsD ?_); have hc := @List.length_nil Nat) | ((with_reducible refine c_opsT ?_); have hc := @List.length_nil Nat) | ((with_reducible refine and_crit ?_ ?_); rfl; have hc := @List.length_nil Nat) | ((with_reducible refine crit_done ?_); rfl) | ((with_reducible refine mkC_go (fun _ => ?_)); have hc := @List.length_nil Nat) | ((with_reducible refine mkL_go (fun _ => ?_)); have hc := @List.length_nil Nat) | ((with_reducible refine oB_inl il51_eq ?_ ?_); exact Nat.le_of_ble_eq_true rfl; simp only [il51c]; have hc := @List.length_nil Nat)) <;> (try simp only [Bool.not_eq_true', Bool.not_eq_false', Bool.not_true, Bool.not_false] at hc) <;> (try simp only [hc, go_sem, reduceIte, Nat.reduceEqDiff, Nat.reduceAdd, Int.reduceEq, Nat.reduceLeDiff, Nat.reduceLT, Nat.reduceBEq, Nat.reduceMul, Nat.reduceSub, Int.reduceToNat, Int.reduceLE, Int.reduceLT, Int.reduceAdd, Int.reduceSub, Int.reduceMul, Int.reduceNeg, Int.reduceDiv, Int.reduceMod, Int.reduceTDiv, Int.reduceTMod, Int.reducePow, hroom, hbig, hcp, hg, hi, hst, hsl, q0]))))
  have q0' : o.is = true := by simpa using q0
  by_cases qa : o.d = h.d ∧ o.e = h.e
  · have da : decide (o.d = h.d ∧ o.e = h.e) = true := decide_eq_true qa
    by_cases qb : o.f = h.f
    · have db : decide (o.f = h.f) = true := decide_eq_true qb
      rw [hset (by rw [rcvH, if_pos (.inr (.inl ⟨qa, qb⟩))])]
      simp only [heardAs] at hsl ⊢
      generalize l.set i ⟨true, h.a, h.b, h.c, h.d, h.e, h.f, h.g⟩ = L at *
      refine ans_go 1 3 il63_eq (Nat.le_of_ble_eq_true rfl) ?_
      (simp only [il63c, go_sem, reduceIte, Nat.reduceEqDiff, Nat.reduceAdd, Int.reduceEq, Nat.reduceLeDiff, Nat.reduceLT, Nat.reduceBEq, Nat.reduceMul, Nat.reduceSub, Int.reduceToNat, Int.reduceLE, Int.reduceLT, Int.reduceAdd, Int.reduceSub, Int.reduceMul, Int.reduceNeg, Int.reduceDiv, Int.reduceMod, Int.reduceTDiv, Int.reduceTMod, Int.reducePow, hroom, hbig, hcp, hg, hi, hst, hsl, da, db, q0'] <;> (repeat' ((first | with_reducible refine brG_intro (fun hc => ?_) (fun hc => ?_) | with_reducible refine brC_intro (fun hc => ?_) (fun hc => ?_) | ((with_reducible refine c_opsD ?_); have hc := @List.length_nil Nat) | ((with_reducible refine c_opsT ?_); have hc := @List.length_nil Nat) | ((with_reducible refine and_crit ?_ ?_); rfl; have hc := @List.length_nil Nat) | ((with_reducible refine crit_done ?_); rfl) | ((with_reducible refine mkC_go (fun _ => ?_)); have hc := @List.length_nil Nat) | ((with_reducible refine mkL_go (fun _ => ?_)); have hc := @List.length_nil Nat) | ((with_reducible refine oB_inl il51_eq ?_ ?_); exact Nat.le_of_ble_eq_true rfl; simp only [il51c]; have hc := @List.length_nil Nat)) <;> (try simp only [Bool.not_eq_true', Bool.not_eq_false', Bool.not_true, Bool.not_false] at hc) <;> (try simp only [hc, go_sem, reduceIte, Nat.reduceEqDiff, Nat.reduceAdd, Int.reduceEq, Nat.reduceLeDiff, Nat.reduceLT, Nat.reduceBEq, Nat.reduceMul, Nat.reduceSub, Int.reduceToNat, Int.reduceLE, Int.reduceLT, Int.reduceAdd, Int.reduceSub, Int.reduceMul, Int.reduceNeg, Int.reduceDiv, Int.reduceMod, Int.reduceTDiv, Int.reduceTMod, Int.reducePow, hroom, hbig, hcp, hg, hi, hst, hsl, da, db, q0']))))
    · have db : decide (o.f = h.f) = false := decide_eq_false qb
      by_cases qc : lt6 h o ≤ 0
      · have dc : decide (lt6 h o ≤ 0) = true := decide_eq_true qc
        rw [hset (by rw [rcvH, if_pos (.inr (.inr qc))])]
        simp only [heardAs] at hsl ⊢
        generalize l.set i ⟨true, h.a, h.b, h.c, h.d, h.e, h.f, h.g⟩ = L at *
        refine ans_go 1 3 il63_eq (Nat.le_of_ble_eq_true rfl) ?_
        (simp only [il63c, go_sem, reduceIte, Nat.reduceEqDiff, Nat.reduceAdd, Int.reduceEq, Nat.reduceLeDiff, Nat.reduceLT, Nat.reduceBEq, Nat.reduceMul, Nat.reduceSub, Int.reduceToNat, Int.reduceLE, Int.reduceLT, Int.reduceAdd, Int.reduceSub, Int.reduceMul, Int.reduceNeg, Int.reduceDiv, Int.reduceMod, Int.reduceTDiv, Int.reduceTMod, Int.reducePow, hroom, hbig, hcp, hg, hi, hst, hsl, da, db, k1, dc, q0'] <;> (repeat' ((first | with_reducible refine brG_intro (fun hc => ?_) (fun hc => ?_) | with_reducible refine brC_intro (fun hc => ?_) (fun hc => ?_) | ((with_reducible refine c_opsD ?_); have hc := @List.length_nil Nat) | ((with_reducible refine c_opsT ?_); have hc := @List.length_nil Nat) | ((with_reducible refine and_crit ?_ ?_); rfl; have hc := @List.length_nil Nat) | ((with_reducible refine crit_done ?_); rfl) | ((with_reducible refine mkC_go (fun _ => ?_)); have hc := @List.length_nil Nat) | ((with_reducible refine mkL_go (fun _ => ?_)); have hc := @List.length_nil Nat) | ((with_reducible refine oB_inl il51_eq ?_ ?_); exact Nat.le_of_ble_eq_true rfl; simp only [il51c]; have hc := @List.length_nil Nat)) <;> (try simp only [Bool.not_eq_true', Bool.not_eq_false', Bool.not_true, Bool.not_false] at hc) <;> (try simp only [hc, go_sem, reduceIte, Nat.reduceEqDiff, Nat.reduceAdd, Int.reduceEq, Nat.reduceLeDiff, Nat.reduceLT, Nat.reduceBEq, Nat.reduceMul, Nat.reduceSub, Int.reduceToNat, Int.reduceLE, Int.reduceLT, Int.reduceAdd, Int.reduceSub, Int.reduceMul, Int.reduceNeg, Int.reduceDiv, Int.reduceMod, Int.reduceTDiv, Int.reduceTMod, Int.reducePow, hroom, hbig, hcp, hg, hi, hst, hsl, da, db, k1, dc, q0']))))
      · have dc : decide (lt6 h o ≤ 0) = false := decide_eq_false qc
        rw [hkeep (by rw [rcvH, if_neg (by rintro (h1 | h1 | h1); exact q0 h1; exact qb h1.2; exact qc h1)])]
        refine ans_go 1 3 il63_eq (Nat.le_of_ble_eq_true rfl) ?_
        (simp only [il63c, go_sem, reduceIte, Nat.reduceEqDiff, Nat.reduceAdd, Int.reduceEq, Nat.reduceLeDiff, Nat.reduceLT, Nat.reduceBEq, Nat.reduceMul, Nat.reduceSub, Int.reduceToNat, Int.reduceLE, Int.reduceLT, Int.reduceAdd, Int.reduceSub, Int.reduceMul, Int.reduceNeg, Int.reduceDiv, Int.reduceMod, Int.reduceTDiv, Int.reduceTMod, Int.reducePow, hroom, hbig, hcp, hg, hi, da, db, k1, dc, q0'] <;> (repeat' ((first | with_reducible refine brG_intro (fun hc => ?_) (fun hc => ?_) | with_reducible refine brC_intro (fun hc => ?_) (fun hc => ?_) | ((with_reducible refine c_opsD ?_); have hc := @List.length_nil Nat) | ((with_reducible refine c_opsT ?_); have hc := @List.length_nil Nat) | ((with_reducible refine and_crit ?_ ?_); rfl; have hc := @List.length_nil Nat) | ((with_reducible refine crit_done ?_); rfl) | ((with_reducible refine mkC_go (fun _ => ?_)); have hc := @List.length_nil Nat) | ((with_reducible refine mkL_go (fun _ => ?_)); have hc := @List.length_nil Nat) | ((with_reducible refine oB_inl il51_eq ?_ ?_); exact Nat.le_of_ble_eq_true rfl; simp only [il51c]; have hc := @List.length_nil Nat)) <;> (try simp only [Bool.not_eq_true', Bool.not_eq_false', Bool.not_true, Bool.not_false] at hc) <;> (try simp only [hc, go_sem, reduceIte, Nat.reduceEqDiff, Nat.reduceAdd, Int.reduceEq, Nat.reduceLeDiff, Nat.reduceLT, Nat.reduceBEq, Nat.reduceMul, Nat.reduceSub, Int.reduceToNat, Int.reduceLE, Int.reduceLT, Int.reduceAdd, Int.reduceSub, Int.reduceMul, Int.reduceNeg, Int.reduceDiv, Int.reduceMod, Int.reduceTDiv, Int.reduceTMod, Int.reducePow, hroom, hbig, hcp, hg, hi, da, db, k1, dc, q0']))))
  · have da : decide (o.d = h.d ∧ o.e = h.e) = false := decide_eq_false qa
    by_cases qc : lt6 h o ≤ 0
    · have dc : decide (lt6 h o ≤ 0) = true := decide_eq_true qc
      rw [hset (by rw [rcvH, if_pos (.inr (.inr qc))])]
      simp only [heardAs] at hsl ⊢
      generalize l.set i ⟨true, h.a, h.b, h.c, h.d, h.e, h.f, h.g⟩ = L at *
      refine ans_go 1 3 il63_eq (Nat.le_of_ble_eq_true rfl) ?_
      (simp only [il63c, go_sem, reduceIte, Nat.reduceEqDiff, Nat.reduceAdd, Int.reduceEq, Nat.reduceLeDiff, Nat.reduceLT, Nat.reduceBEq, Nat.reduceMul, Nat.reduceSub, Int.reduceToNat, Int.reduceLE, Int.reduceLT, Int.reduceAdd, Int.reduceSub, Int.reduceMul, Int.reduceNeg, Int.reduceDiv, Int.reduceMod, Int.reduceTDiv, Int.reduceTMod, Int.reducePow, hroom, hbig, hcp, hg, hi, hst, hsl, da, k1, dc, q0'] <;> (repeat' ((first | with_reducible refine brG_intro (fun hc => ?_) (fun hc => ?_) | with_reducible refine brC_intro (fun hc => ?_) (fun hc => ?_) | ((with_reducible refine c_opsD ?_); have hc := @List.length_nil Nat) | ((with_reducible refine c_opsT ?_); have hc := @List.length_nil Nat) | ((with_reducible refine and_crit ?_ ?_); rfl; have hc := @List.length_nil Nat) | ((with_reducible refine crit_done ?_); rfl) | ((with_reducible refine mkC_go (fun _ => ?_)); have hc := @List.length_nil Nat) | ((with_reducible refine mkL_go (fun _ => ?_)); have hc := @List.length_nil Nat) | ((with_reducible refine oB_inl il51_eq ?_ ?_); exact Nat.le_of_ble_eq_true rfl; simp only [il51c]; have hc := @List.length_nil Nat)) <;> (try simp only [Bool.not_eq_true', Bool.not_eq_false', Bool.not_true, Bool.not_false] at hc) <;> (try simp only [hc, go_sem, reduceIte, Nat.reduceEqDiff, Nat.reduceAdd, Int.reduceEq, Nat.reduceLeDiff, Nat.reduceLT, Nat.reduceBEq, Nat.reduceMul, Nat.reduceSub, Int.reduceToNat, Int.reduceLE, Int.reduceLT, Int.reduceAdd, Int.reduceSub, Int.reduceMul, Int.reduceNeg, Int.reduceDiv, Int.reduceMod, Int.reduceTDiv, Int.reduceTMod, Int.reducePow, hroom, hbig, hcp, hg, hi, hst, hsl, da, k1, dc, q0']))))
    · have dc : decide (lt6 h o ≤ 0) = false := decide_eq_false qc
      rw [hkeep (by rw [rcvH, if_neg (by rintro (h1 | h1 | h1); exact q0 h1; exact qa h1.1; exact qc h1)])]
      refine ans_go 1 3 il63_eq (Nat.le_of_ble_eq_true rfl) ?_
      (simp only [il63c, go_sem, reduceIte, Nat.reduceEqDiff, Nat.reduceAdd, Int.reduceEq, Nat.reduceLeDiff, Nat.reduceLT, Nat.reduceBEq, Nat.reduceMul, Nat.reduceSub, Int.reduceToNat, Int.reduceLE, Int.reduceLT, Int.reduceAdd, Int.reduceSub, Int.reduceMul, Int.reduceNeg, Int.reduceDiv, Int.reduceMod, Int.reduceTDiv, Int.reduceTMod, Int.reducePow, hroom, hbig, hcp, hg, hi, da, k1, dc, q0'] <;> (repeat' ((first | with_reducible refine brG_intro (fun hc => ?_) (fun hc => ?_) | with_reducible refine brC_intro (fun hc => ?_) (fun hc => ?_) | ((with_reducible refine c_opsD ?_); have hc := @List.length_nil Nat) | ((with_reducible refine c_opsT ?_); have hc := @List.length_nil Nat) | ((with_reducible refine and_crit ?_ ?_); rfl; have hc := @List.length_nil Nat) | ((with_reducible refine crit_done ?_); rfl) | ((with_reducible refine mkC_go (fun _ => ?_)); have hc := @List.length_nil Nat) | ((with_reducible refine mkL_go (fun _ => ?_)); have hc := @List.length_nil Nat) | ((with_reducible refine oB_inl il51_eq ?_ ?_); exact Nat.le_of_ble_eq_true rfl; simp only [il51c]; have hc := @List.length_nil Nat)) <;> (try simp only [Bool.not_eq_true', Bool.not_eq_false', Bool.not_true, Bool.not_false] at hc) <;> (try simp only [hc, go_sem, reduceIte, Nat.reduceEqDiff, Nat.reduceAdd, Int.reduceEq, Nat.reduceLeDiff, Nat.reduceLT, Nat.reduceBEq, Nat.reduceMul, Nat.reduceSub, Int.reduceToNat, Int.reduceLE, Int.reduceLT, Int.reduceAdd, Int.reduceSub, Int.reduceMul, Int.reduceNeg, Int.reduceDiv, Int.reduceMod, Int.reduceTDiv, Int.reduceTMod, Int.reducePow, hroom, hbig, hcp, hg, hi, da, k1, dc, q0']))))

theorem changedF_ans (c : Bool) (l : List Hd) (hl : l.length ≤ 1000) (i : Nat) (hi : i < l.length) : ans Try.prog pol 63 [.sl c 8 (l.map encH), .fn (.func 52) [] [.ip [I (i : Nat)]]] = some (.sl true 8 ((l.set i zH).map encH)) := by
  obtain ⟨o, ho⟩ : ∃ o, l[i]? = some o := ⟨l[i], by simp⟩
  have hroom : 64 * l.length ≤ roomB := by rw [Nat.mul_comm]; exact ap_room (by omega) (by omega)
  have hbig : l.length ≤ 9223372036854775807 := by omega
  have hcp := cpB_full (size := 8) (n := l.length) (o := 0) (mr := 0) (h := [.row 8 (List.replicate l.length (.t (hdT zH))) 0]) (xs := (l.map encH).map .t) (elems := List.replicate l.length (.t (hdT zH))) (by simp) (by simp) (Nat.zero_le _)
  have hst := map_set (enc := encH) (l := l) (i := i) (x := zH)
  simp only [encH, hdT, zH] at hst
  simp only [zH] at hcp ⊢
  have hg : ((l.map encH).map AV.t)[i]? = some (.t (hdT o)) := map_get (enc := encH) ho
  have hsl : (l.set i ⟨false, 0, 0, 0, 0, 0, 0, 0⟩).length = l.length := by simp
  generalize l.set i ⟨false, 0, 0, 0, 0, 0, 0, 0⟩ = L at *
  refine ans_go 1 3 il63_eq (Nat.le_of_ble_eq_true rfl) ?_
  (simp only [il63c, go_sem, reduceIte, Nat.reduceEqDiff, Nat.reduceAdd, Int.reduceEq, Nat.reduceLeDiff, Nat.reduceLT, Nat.reduceBEq, Nat.reduceMul, Nat.reduceSub, Int.reduceToNat, Int.reduceLE, Int.reduceLT, Int.reduceAdd, Int.reduceSub, Int.reduceMul, Int.reduceNeg, Int.reduceDiv, Int.reduceMod, Int.reduceTDiv, Int.reduceTMod, Int.reducePow, hroom, hbig, hcp, hg, hi, hst, hsl] <;> (repeat' ((first | with_reducible refine brG_intro (fun hc => ?_) (fun hc => ?_) | with_reducible refine brC_intro (fun hc => ?_) (fun hc => ?_) | ((with_reducible refine c_opsD ?_); have hc := @List.length_nil Nat) | ((with_reducible refine c_opsT ?_); have hc := @List.length_nil Nat) | ((with_reducible refine and_crit ?_ ?_); rfl; have hc := @List.length_nil Nat) | ((with_reducible refine crit_done ?_); rfl) | ((with_reducible refine mkC_go (fun _ => ?_)); have hc := @List.length_nil Nat) | ((with_reducible refine mkL_go (fun _ => ?_)); have hc := @List.length_nil Nat) | ((with_reducible refine oB_inl il52_eq ?_ ?_); exact Nat.le_of_ble_eq_true rfl; simp only [il52c]; have hc := @List.length_nil Nat)) <;> (try simp only [Bool.not_eq_true', Bool.not_eq_false', Bool.not_true, Bool.not_false] at hc) <;> (try simp only [hc, go_sem, reduceIte, Nat.reduceEqDiff, Nat.reduceAdd, Int.reduceEq, Nat.reduceLeDiff, Nat.reduceLT, Nat.reduceBEq, Nat.reduceMul, Nat.reduceSub, Int.reduceToNat, Int.reduceLE, Int.reduceLT, Int.reduceAdd, Int.reduceSub, Int.reduceMul, Int.reduceNeg, Int.reduceDiv, Int.reduceMod, Int.reduceTDiv, Int.reduceTMod, Int.reducePow, hroom, hbig, hcp, hg, hi, hst, hsl]))))

theorem tick_l0 (l : List Hd) (hl : l.length ≤ 1000) (hb : ∀ h ∈ l, -1000000 ≤ h.g ∧ h.g ≤ 1000000) (J : Inl) (nn n0 : Nat) (hn : 1000 < nn) (R : Xit → FEnv → Heap → Prop) (e : FEnv)
    (he : e 0 = .ms 0 l.length 0 l.length 8 true ∧ e 4 = .ms 0 l.length 0 l.length 8 true ∧ e 5 = .t (I (l.length : Nat)) ∧ e 6 = .t (I 0))
    (hR : ∀ e mr, mr ≤ l.length → R (.exit 0) e [.row 8 (((l.map tickH).map encH).map .t) mr]) :
    wpIter 1 (some [0, 4, 5, 6]) (wc Try.prog pol (ans Try.prog pol) J n0 53 il53l0) R nn e [.row 8 ((l.map encH).map .t) l.length] := by
  refine loop_range l encH (step := fun i _ (_ : Unit) => Ctl.go ()) (fin := id)
    (St := fun i _ e h => (e 0 = .ms 0 l.length 0 l.length 8 true ∧ e 4 = .ms 0 l.length 0 l.length 8 true ∧ e 5 = .t (I (l.length : Nat)) ∧ e 6 = .t (I (i : Nat))) ∧ h = [.row 8 (((((l.take i).map tickH) ++ l.drop i).map encH).map .t) l.length])
    (Ex := fun _ x e h => x = .exit 0 ∧ h = [.row 8 (((l.map tickH).map encH).map .t) l.length]) (s := ()) (by omega) ?_ ?_ (by omega) ⟨he, by simp⟩ ?_
  · intro i o _ e h Y R hm hi hx hget hlt hw ⟨hs, hh⟩ hk
    subst hh
    simp only [ctlK_go] at hk
    have hob := hb o hm
    have hL : (((l.take i).map tickH) ++ l.drop i)[i]? = some o := by
      rw [List.getElem?_append_right (by simp; omega)]
      simp [List.length_take, Nat.min_eq_left (Nat.le_of_lt hi), hx]
    have hnext : (((l.take i).map tickH) ++ l.drop i).set i (tickH o) = ((l.take (i + 1)).map tickH) ++ l.drop (i + 1) := by
      have h1 : l.drop i = o :: l.drop (i + 1) := by
        obtain ⟨h1, h2⟩ := List.getElem?_eq_some_iff.1 hx
        rw [← h2]; exact List.drop_eq_getElem_cons h1
      have h2 : l.take (i + 1) = l.take i ++ [o] := by rw [List.take_add_one, hx]; rfl
      have h3 : ((l.take i).map tickH).length = i := by simp; omega
      rw [h1, h2, List.set_append, h3]
      simp
    have hLl : (((l.take i).map tickH) ++ l.drop i).length = l.length := by simp; omega
    generalize ((l.take i).map tickH) ++ l.drop i = L at *
    generalize ((l.take (i + 1)).map tickH) ++ l.drop (i + 1) = L2 at *
    have hg : ((L.map encH).map AV.t)[i]? = some (.t (hdT o)) := map_get (enc := encH) hL
    have hst := map_set (enc := encH) (l := L) (i := i) (x := tickH o)
    rw [hnext] at hst
    have v1 : IntKind.i64.wrap (o.g + 1) = o.g + 1 := wrap_i64 (by omega) (by omega)
    by_cases q0 : o.is = false
    · have ht : tickH o = o := by rw [tickH, if_pos q0]
      rw [ht] at hnext
      have : L2 = L := by rw [← hnext]; exact set_same hL
      subst this
      (simp only [il53l0_go, il53l0b, go_sem, reduceIte, Nat.reduceEqDiff, Nat.reduceAdd, Int.reduceEq, Nat.reduceLeDiff, Nat.reduceLT, Nat.reduceBEq, Nat.reduceMul, Nat.reduceSub, Int.reduceToNat, Int.reduceLE, Int.reduceLT, Int.reduceAdd, Int.reduceSub, Int.reduceMul, Int.reduceNeg, Int.reduceDiv, Int.reduceMod, Int.reduceTDiv, Int.reduceTMod, Int.reducePow, hs, hlt, hi, hLl, hg, hw, q0, frz_rowH] <;> (repeat' ((first | with_reducible refine brG_intro (fun hc => ?_) (fun hc => ?_) | with_reducible refine brC_intro (fun hc => ?_) (fun hc => ?_) | ((with_reducible refine c_opsD ?_); have hc := @List.length_nil Nat) | ((with_reducible refine c_opsT ?_); have hc := @List.length_nil Nat) | ((with_reducible refine and_crit ?_ ?_); rfl; have hc := @List.length_nil Nat) | ((with_reducible refine crit_done ?_); rfl) | ((with_reducible refine mkC_go (fun _ => ?_)); have hc := @List.length_nil Nat) | ((with_reducible refine mkL_go (fun _ => ?_)); have hc := @List.length_nil Nat)) <;> (try simp only [Bool.not_eq_true', Bool.not_eq_false', Bool.not_true, Bool.not_false] at hc) <;> (try simp only [hc, go_sem, reduceIte, Nat.reduceEqDiff, Nat.reduceAdd, Int.reduceEq, Nat.reduceLeDiff, Nat.reduceLT, Nat.reduceBEq, Nat.reduceMul, Nat.reduceSub, Int.reduceToNat, Int.reduceLE, Int.reduceLT, Int.reduceAdd, Int.reduceSub, Int.reduceMul, Int.reduceNeg, Int.reduceDiv, Int.reduceMod, Int.reduceTDiv, Int.reduceTMod, Int.reducePow, hs, hlt, hi, hLl, hg, hw, q0, frz_rowH]))))
      all_goals (refine hk _ _ ⟨?_, rfl⟩; simp only [go_sem, reduceIte, Nat.reduceEqDiff, Nat.reduceAdd, Int.reduceEq, Nat.reduceLeDiff, Nat.reduceLT, Nat.reduceBEq, Nat.reduceMul, Nat.reduceSub, Int.reduceToNat, Int.reduceLE, Int.reduceLT, Int.reduceAdd, Int.reduceSub, Int.reduceMul, Int.reduceNeg, Int.reduceDiv, Int.reduceMod, Int.reduceTDiv, Int.reduceTMod, Int.reducePow, hs, hw])
    · have q0' : o.is = true := by simpa using q0
      by_cases q1 : 20 < o.g + 1
      · have d1 : decide (20 < o.g + 1) = true := decide_eq_true q1
        have ht : tickH o = zH := by rw [tickH, if_neg q0, if_pos q1]
        rw [ht] at hst
        simp only [encH, hdT, zH] at hst
        (simp only [il53l0_go, il53l0b, go_sem, reduceIte, Nat.reduceEqDiff, Nat.reduceAdd, Int.reduceEq, Nat.reduceLeDiff, Nat.reduceLT, Nat.reduceBEq, Nat.reduceMul, Nat.reduceSub, Int.reduceToNat, Int.reduceLE, Int.reduceLT, Int.reduceAdd, Int.reduceSub, Int.reduceMul, Int.reduceNeg, Int.reduceDiv, Int.reduceMod, Int.reduceTDiv, Int.reduceTMod, Int.reducePow, hs, hlt, hi, hLl, hg, hw, q0', v1, d1, hst, frz_rowH] <;> (repeat' ((first | with_reducible refine brG_intro (fun hc => ?_) (fun hc => ?_) | with_reducible refine brC_intro (fun hc => ?_) (fun hc => ?_) | ((with_reducible refine c_opsD ?_); have hc := @List.length_nil Nat) | ((with_reducible refine c_opsT ?_); have hc := @List.length_nil Nat) | ((with_reducible refine and_crit ?_ ?_); rfl; have hc := @List.length_nil Nat) | ((with_reducible refine crit_done ?_); rfl) | ((with_reducible refine mkC_go (fun _ => ?_)); have hc := @List.length_nil Nat) | ((with_reducible refine mkL_go (fun _ => ?_)); have hc := @List.length_nil Nat)) <;> (try simp only [Bool.not_eq_true', Bool.not_eq_false', Bool.not_true, Bool.not_false] at hc) <;> (try simp only [hc, go_sem, reduceIte, Nat.reduceEqDiff, Nat.reduceAdd, Int.reduceEq, Nat.reduceLeDiff, Nat.reduceLT, Nat.reduceBEq, Nat.reduceMul, Nat.reduceSub, Int.reduceToNat, Int.reduceLE, Int.reduceLT, Int.reduceAdd, Int.reduceSub, Int.reduceMul, Int.reduceNeg, Int.reduceDiv, Int.reduceMod, Int.reduceTDiv, Int.reduceTMod, Int.reducePow, hs, hlt, hi, hLl, hg, hw, q0', v1, d1, hst, frz_rowH]))))
        all_goals (refine hk _ _ ⟨?_, rfl⟩; simp only [go_sem, reduceIte, Nat.reduceEqDiff, Nat.reduceAdd, Int.reduceEq, Nat.reduceLeDiff, Nat.reduceLT, Nat.reduceBEq, Nat.reduceMul, Nat.reduceSub, Int.reduceToNat, Int.reduceLE, Int.reduceLT, Int.reduceAdd, Int.reduceSub, Int.reduceMul, Int.reduceNeg, Int.reduceDiv, Int.reduceMod, Int.reduceTDiv, Int.reduceTMod, Int.reducePow, hs, hw])
      · have d1 : decide (20 < o.g + 1) = false := decide_eq_false q1
        have ht : tickH o = ⟨o.is, o.a, o.b, o.c, o.d, o.e, o.f, o.g + 1⟩ := by rw [tickH, if_neg q0, if_neg q1]
        rw [ht] at hst
        simp only [encH, hdT, q0'] at hst
        (simp only [il53l0_go, il53l0b, go_sem, reduceIte, Nat.reduceEqDiff, Nat.reduceAdd, Int.reduceEq, Nat.reduceLeDiff, Nat.reduceLT, Nat.reduceBEq, Nat.reduceMul, Nat.reduceSub, Int.reduceToNat, Int.reduceLE, Int.reduceLT, Int.reduceAdd, Int.reduceSub, Int.reduceMul, Int.reduceNeg, Int.reduceDiv, Int.reduceMod, Int.reduceTDiv, Int.reduceTMod, Int.reducePow, hs, hlt, hi, hLl, hg, hw, q0', v1, d1, hst, frz_rowH] <;> (repeat' ((first | with_reducible refine brG_intro (fun hc => ?_) (fun hc => ?_) | with_reducible refine brC_intro (fun hc => ?_) (fun hc => ?_) | ((with_reducible refine c_opsD ?_); have hc := @List.length_nil Nat) | ((with_reducible refine c_opsT ?_); have hc := @List.length_nil Nat) | ((with_reducible refine and_crit ?_ ?_); rfl; have hc := @List.length_nil Nat) | ((with_reducible refine crit_done ?_); rfl) | ((with_reducible refine mkC_go (fun _ => ?_)); have hc := @List.length_nil Nat) | ((with_reducible refine mkL_go (fun _ => ?_)); have hc := @List.length_nil Nat)) <;> (try simp only [Bool.not_eq_true', Bool.not_eq_false', Bool.not_true, Bool.not_false] at hc) <;> (try simp only [hc, go_sem, reduceIte, Nat.reduceEqDiff, Nat.reduceAdd, Int.reduceEq, Nat.reduceLeDiff, Nat.reduceLT, Nat.reduceBEq, Nat.reduceMul, Nat.reduceSub, Int.reduceToNat, Int.reduceLE, Int.reduceLT, Int.reduceAdd, Int.reduceSub, Int.reduceMul, Int.reduceNeg, Int.reduceDiv, Int.reduceMod, Int.reduceTDiv, Int.reduceTMod, Int.reducePow, hs, hlt, hi, hLl, hg, hw, q0', v1, d1, hst, frz_rowH]))))
        all_goals (refine hk _ _ ⟨?_, rfl⟩; simp only [go_sem, reduceIte, Nat.reduceEqDiff, Nat.reduceAdd, Int.reduceEq, Nat.reduceLeDiff, Nat.reduceLT, Nat.reduceBEq, Nat.reduceMul, Nat.reduceSub, Int.reduceToNat, Int.reduceLE, Int.reduceLT, Int.reduceAdd, Int.reduceSub, Int.reduceMul, Int.reduceNeg, Int.reduceDiv, Int.reduceMod, Int.reduceTDiv, Int.reduceTMod, Int.reducePow, hs, hw])
  · intro _ e h Y R hlt ⟨hs, hh⟩ hk
    subst hh
    (simp only [il53l0_go, il53l0b, go_sem, reduceIte, Nat.reduceEqDiff, Nat.reduceAdd, Int.reduceEq, Nat.reduceLeDiff, Nat.reduceLT, Nat.reduceBEq, Nat.reduceMul, Nat.reduceSub, Int.reduceToNat, Int.reduceLE, Int.reduceLT, Int.reduceAdd, Int.reduceSub, Int.reduceMul, Int.reduceNeg, Int.reduceDiv, Int.reduceMod, Int.reduceTDiv, Int.reduceTMod, Int.reducePow, hs, hlt, frz_rowH] <;> (repeat' ((first | with_reducible refine brG_intro (fun hc => ?_) (fun hc => ?_) | with_reducible refine brC_intro (fun hc => ?_) (fun hc => ?_) | ((with_reducible refine c_opsD ?_); have hc := @List.length_nil Nat) | ((with_reducible refine c_opsT ?_); have hc := @List.length_nil Nat) | ((with_reducible refine and_crit ?_ ?_); rfl; have hc := @List.length_nil Nat) | ((with_reducible refine crit_done ?_); rfl) | ((with_reducible refine mkC_go (fun _ => ?_)); have hc := @List.length_nil Nat) | ((with_reducible refine mkL_go (fun _ => ?_)); have hc := @List.length_nil Nat)) <;> (try simp only [Bool.not_eq_true', Bool.not_eq_false', Bool.not_true, Bool.not_false] at hc) <;> (try simp only [hc, go_sem, reduceIte, Nat.reduceEqDiff, Nat.reduceAdd, Int.reduceEq, Nat.reduceLeDiff, Nat.reduceLT, Nat.reduceBEq, Nat.reduceMul, Nat.reduceSub, Int.reduceToNat, Int.reduceLE, Int.reduceLT, Int.reduceAdd, Int.reduceSub, Int.reduceMul, Int.reduceNeg, Int.reduceDiv, Int.reduceMod, Int.reduceTDiv, Int.reduceTMod, Int.reducePow, hs, hlt, frz_rowH]))))
    all_goals (refine hk _ _ _ ⟨rfl, ?_⟩; simp)
  · intro x e h ⟨h1, h2⟩
    subst h1 h2
    exact hR _ _ (Nat.le_refl _)

theorem changedT_ans (c : Bool) (l : List Hd) (hl : l.length ≤ 1000) (hb : ∀ h ∈ l, -1000000 ≤ h.g ∧ h.g ≤ 1000000) : ans Try.prog pol 63 [.sl c 8 (l.map encH), .fn (.func 53) [] []] = some (.sl true 8 ((l.map tickH).map encH)) := by
  have hroom : 64 * l.length ≤ roomB := by rw [Nat.mul_comm]; exact ap_room (by omega) (by omega)
  have hbig : l.length ≤ 9223372036854775807 := by omega
  have hcp := cpB_full (size := 8) (n := l.length) (o := 0) (mr := 0) (h := [.row 8 (List.replicate l.length (.t (hdT zH))) 0]) (xs := (l.map encH).map .t) (elems := List.replicate l.length (.t (hdT zH))) (by simp) (by simp) (Nat.zero_le _)
  simp only [zH] at hcp
  refine ans_go 2000 3 il63_eq (Nat.le_of_ble_eq_true rfl) ?_
  (simp only [il63c, go_sem, reduceIte, Nat.reduceEqDiff, Nat.reduceAdd, Int.reduceEq, Nat.reduceLeDiff, Nat.reduceLT, Nat.reduceBEq, Nat.reduceMul, Nat.reduceSub, Int.reduceToNat, Int.reduceLE, Int.reduceLT, Int.reduceAdd, Int.reduceSub, Int.reduceMul, Int.reduceNeg, Int.reduceDiv, Int.reduceMod, Int.reduceTDiv, Int.reduceTMod, Int.reducePow, hroom, hbig, hcp] <;> (repeat' ((first | with_reducible refine brG_intro (fun hc => ?_) (fun hc => ?_) | with_reducible refine brC_intro (fun hc => ?_) (fun hc => ?_) | ((with_reducible refine c_opsD ?_); have hc := @List.length_nil Nat) | ((with_reducible refine c_opsT ?_); have hc := @List.length_nil Nat) | ((with_reducible refine and_crit ?_ ?_); rfl; have hc := @List.length_nil Nat) | ((with_reducible refine crit_done ?_); rfl) | ((with_reducible refine mkC_go (fun _ => ?_)); have hc := @List.length_nil Nat) | ((with_reducible refine mkL_go (fun _ => ?_)); have hc := @List.length_nil Nat) | ((with_reducible refine oB_inl il53_eq ?_ ?_); exact Nat.le_of_ble_eq_true rfl; simp only [il53c]; have hc := @List.length_nil Nat)) <;> (try simp only [Bool.not_eq_true', Bool.not_eq_false', Bool.not_true, Bool.not_false] at hc) <;> (try simp only [hc, go_sem, reduceIte, Nat.reduceEqDiff, Nat.reduceAdd, Int.reduceEq, Nat.reduceLeDiff, Nat.reduceLT, Nat.reduceBEq, Nat.reduceMul, Nat.reduceSub, Int.reduceToNat, Int.reduceLE, Int.reduceLT, Int.reduceAdd, Int.reduceSub, Int.reduceMul, Int.reduceNeg, Int.reduceDiv, Int.reduceMod, Int.reduceTDiv, Int.reduceTMod, Int.reducePow, hroom, hbig, hcp]))))
  refine tick_l0 l hl hb _ _ _ (by omega) _ _ (by simp only [go_sem, reduceIte, Nat.reduceEqDiff, Nat.reduceAdd, Int.reduceEq, Nat.reduceLeDiff, Nat.reduceLT, Nat.reduceBEq, Nat.reduceMul, Nat.reduceSub, Int.reduceToNat, Int.reduceLE, Int.reduceLT, Int.reduceAdd, Int.reduceSub, Int.reduceMul, Int.reduceNeg, Int.reduceDiv, Int.reduceMod, Int.reduceTDiv, Int.reduceTMod, Int.reducePow]) ?_
  intro e mr hmr
  have htl : (l.map tickH).length = l.length := by simp
  generalize l.map tickH = L at *
  (simp only [il63c, go_sem, reduceIte, Nat.reduceEqDiff, Nat.reduceAdd, Int.reduceEq, Nat.reduceLeDiff, Nat.reduceLT, Nat.reduceBEq, Nat.reduceMul, Nat.reduceSub, Int.reduceToNat, Int.reduceLE, Int.reduceLT, Int.reduceAdd, Int.reduceSub, Int.reduceMul, Int.reduceNeg, Int.reduceDiv, Int.reduceMod, Int.reduceTDiv, Int.reduceTMod, Int.reducePow, hmr, htl] <;> (repeat' ((first | with_reducible refine brG_intro (fun hc => ?_) (fun hc => ?_) | with_reducible refine brC_intro (fun hc => ?_) (fun hc => ?_) | ((with_reducible refine c_opsD ?_); have hc := @List.length_nil Nat) | ((with_reducible refine c_opsT ?_); have hc := @List.length_nil Nat) | ((with_reducible refine and_crit ?_ ?_); rfl; have hc := @List.length_nil Nat) | ((with_reducible refine crit_done ?_); rfl) | ((with_reducible refine mkC_go (fun _ => ?_)); have hc := @List.length_nil Nat) | ((with_reducible refine mkL_go (fun _ => ?_)); have hc := @List.length_nil Nat)) <;> (try simp only [Bool.not_eq_true', Bool.not_eq_false', Bool.not_true, Bool.not_false] at hc) <;> (try simp only [hc, go_sem, reduceIte, Nat.reduceEqDiff, Nat.reduceAdd, Int.reduceEq, Nat.reduceLeDiff, Nat.reduceLT, Nat.reduceBEq, Nat.reduceMul, Nat.reduceSub, Int.reduceToNat, Int.reduceLE, Int.reduceLT, Int.reduceAdd, Int.reduceSub, Int.reduceMul, Int.reduceNeg, Int.reduceDiv, Int.reduceMod, Int.reduceTDiv, Int.reduceTMod, Int.reducePow, hmr, htl]))))

end Go.Proofs.Ytcpaijajddaidaa
