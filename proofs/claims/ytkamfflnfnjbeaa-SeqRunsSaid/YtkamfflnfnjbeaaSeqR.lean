/- The law SeqRuns: the numbers of each stream are consecutive. -/
import Derived.Test.YtkamfflnfnjbeaaSeqG
import Derived.Test.YtkamfflnfnjbeaaWorks39
namespace Go.Proofs.Ytkamfflnfnjbeaa
open Go Go.Abs
set_option linter.unusedSimpArgs false
set_option linter.unusedVariables false
set_option maxRecDepth 100000
set_option maxHeartbeats 4000000

abbrev kI (n : Int) : Value := .int .i64 n
abbrev I6 (n : Int) : T := .sc (.int .i64 n)
abbrev fI (n : Int) : AV := .t (I6 n)
abbrev mpO (m : List Cnt) : AObj := .map (encM kI fI m)
theorem key3 : KeyOk Try.prog 3 kI := key_i64 (by kernel_rfl)
theorem typ48 : typ Try.prog 48 = some (.map 3 3) := by kernel_rfl
theorem zero3 : zeroOf Try.prog 3 = some (I6 0) := by kernel_rfl
theorem frzM (m : List Cnt) (h : Heap) (p : Nat → Bool) : frzObj h p (mpO m) = some (mpO m) := frz_encM (fun v => ⟨_, rfl⟩)
theorem lkOk48 (m : List Cnt) (k : Int) (hs : Heap) : lkV Try.prog 48 true (mpO m :: hs) (.mp 0) (.t (I6 k)) = some (.t (.tup [I6 ((mget m k).getD 0), .sc (.bool (mget m k).isSome)])) := by
  have := lk_mapOk (h := mpO m :: hs) (o := 0) key3 typ48 zero3 k (f := fI) (l := m) rfl
  rw [show ofVal (kI k) = I6 k from rfl] at this
  rw [this]
  cases mget m k <;> rfl
theorem lk48 (m : List Cnt) (k : Int) (hs : Heap) : lkV Try.prog 48 false (mpO m :: hs) (.mp 0) (.t (I6 k)) = some (.t (I6 ((mget m k).getD 0))) := by
  have := lk_map (h := mpO m :: hs) (o := 0) key3 typ48 zero3 k (f := fI) (l := m) rfl
  rw [show ofVal (kI k) = I6 k from rfl] at this
  rw [this]
  cases mget m k <;> rfl
theorem up48 (m : List Cnt) (k v : Int) (hs : Heap) : upV Try.prog 48 (mpO m :: hs) (.mp 0) (.t (I6 k)) (.t (I6 v)) = some (mpO (mput m k v) :: hs) := by
  have := up_map (h := mpO m :: hs) (o := 0) key3 typ48 k v (f := fI) (l := m) rfl
  exact this
theorem encM_len (m : List Cnt) : (encM kI fI m).length = m.length := by simp [encM]

def encU (n : Int) : T := .sc (.int .u8 n)
def strm (n : Int) : Int := 1 + n % 20 * 100
/-- One stream's turn. -/
def stR (z : List Cnt × List Cnt) (n : Int) : List Cnt × List Cnt :=
  match mget z.1 (strm n) with
  | some v => (ins (strm n) ((v + 1) % 65536) z.1, mput z.2 (strm n) ((v + 1) % 65536))
  | none => if z.1.length = 12 then z else (ins (strm n) 1 z.1, mput z.2 (strm n) 1)

theorem stR_ok {z : List Cnt × List Cnt} (h : runW z.1 z.2) {n : Int} (hn : 0 ≤ n ∧ n < 256) : runW (stR z n).1 (stR z n).2 := by
  obtain ⟨⟨h1, h2⟩, h3, h4⟩ := h
  have hs : 1 ≤ strm n ∧ strm n ≤ 4095 := by unfold strm; omega
  unfold stR
  generalize strm n = s at *
  cases hm : mget z.1 s with
  | some v =>
    refine ⟨⟨?_, chk_ins hs (by omega) h2 (by omega)⟩, ?_, fun k => ?_⟩
    · rw [len_ins s _ h2, hm]; simpa using h1
    · rw [len_ins s _ h2, hm, mput_len, h4, hm]; simpa using h3
    · rw [mget_ins s _ h2, mget_mput, h4]
  | none =>
    by_cases h12 : z.1.length = 12
    · simp only [h12, if_true]
      exact ⟨⟨h1, h2⟩, h3, h4⟩
    · simp only [h12, if_false]
      refine ⟨⟨?_, chk_ins hs (by omega) h2 (by omega)⟩, ?_, fun k => ?_⟩
      · rw [len_ins s _ h2, hm]; simp; omega
      · rw [len_ins s _ h2, hm, mput_len, h4, hm]; simpa using h3
      · rw [mget_ins s _ h2, mget_mput, h4]

theorem take_put {l : List Cnt} (h : chk 0 l = true) {i : Nat} {c : Cnt} (hc : l[i]? = some c) : mput (l.take i) c.1 c.2 = l.take (i + 1) := by
  have hi := (List.getElem?_eq_some_iff.1 hc).1
  have hsplit : l.take i ++ c :: l.drop (i + 1) = l := by
    have := List.getElem?_eq_some_iff.1 hc
    obtain ⟨h1, h2⟩ := this
    subst h2
    simp
  have hm := (mget_before (p := l.take i) (b := 0) (c := c) (r := l.drop (i + 1)) (by rw [hsplit]; exact h)).2
  rw [mput_new hm]
  rw [List.take_add_one, hc]
  rfl

theorem seqRuns_ans (d : List Cnt) (hd : d.length < 9223372036854775808) (hdc : ∀ c ∈ d, (0 ≤ c.1 ∧ c.1 < 65536) ∧ 0 ≤ c.2 ∧ c.2 < 65536) (us : List Int) (hus : ∀ u ∈ us, 0 ≤ u ∧ u < 256) :
    ans Try.prog pol 5 [.sl false 2 (d.map encD), .sl false 1 (us.map encU)] = some (.sc (.bool true)) := by
  obtain ⟨hv2, hv1⟩ := lstD_ok d hdc
  have c1 := list_ans d hd hdc
  generalize lstD d = l at c1 hv1 hv2
  have hmin : (if (60 : Int) < (us.length : Nat) then 60 else ((us.length : Nat) : Int)) = ((min us.length 60 : Nat) : Int) := by split <;> omega
  have htake : (us.map encU).take (min us.length 60) = (us.take 60).map encU := by
    rw [← List.map_take]; congr 1
    by_cases h : us.length ≤ 60
    · rw [Nat.min_eq_left h, List.take_of_length_le (Nat.le_refl _), List.take_of_length_le h]
    · rw [Nat.min_eq_right (by omega)]
  have hle : min us.length 60 ≤ us.length := Nat.min_le_left _ _
  have hlen : (us.take 60).length ≤ 60 := by simp; omega
  have hus' : ∀ x ∈ us.take 60, 0 ≤ x ∧ x < 256 := fun x hx => hus x (List.mem_of_mem_take hx)
  generalize us.take 60 = us' at htake hlen hus'
  refine ans_go 100 1 il5_eq (Nat.le_of_ble_eq_true rfl) ?_
  (simp only [il5c, go_sem, reduceIte, Nat.reduceEqDiff, Nat.reduceAdd, Int.reduceEq, Nat.reduceLeDiff, Nat.reduceLT, Nat.reduceBEq, Nat.reduceMul, Nat.reduceSub, Int.reduceToNat, Int.reduceLE, Int.reduceLT, Int.reduceAdd, Int.reduceSub, Int.reduceMul, Int.reduceNeg, Int.reduceDiv, Int.reduceMod, Int.reduceTDiv, Int.reduceTMod, Int.reducePow, works39_ans, c1] <;> (repeat' ((first | with_reducible refine brG_intro (fun hc => ?_) (fun hc => ?_) | with_reducible refine brC_intro (fun hc => ?_) (fun hc => ?_) | ((with_reducible refine c_opsD ?_); have hc := @List.length_nil Nat) | ((with_reducible refine c_opsT ?_); have hc := @List.length_nil Nat) | ((with_reducible refine and_crit ?_ ?_); rfl; have hc := @List.length_nil Nat) | ((with_reducible refine crit_done ?_); rfl) | ((with_reducible refine mkC_go (fun _ => ?_)); have hc := @List.length_nil Nat) | ((with_reducible refine mkL_go (fun _ => ?_)); have hc := @List.length_nil Nat)) <;> (try simp only [Bool.not_eq_true', Bool.not_eq_false', Bool.not_true, Bool.not_false] at hc) <;> (try simp only [hc, go_sem, reduceIte, Nat.reduceEqDiff, Nat.reduceAdd, Int.reduceEq, Nat.reduceLeDiff, Nat.reduceLT, Nat.reduceBEq, Nat.reduceMul, Nat.reduceSub, Int.reduceToNat, Int.reduceLE, Int.reduceLT, Int.reduceAdd, Int.reduceSub, Int.reduceMul, Int.reduceNeg, Int.reduceDiv, Int.reduceMod, Int.reduceTDiv, Int.reduceTMod, Int.reducePow, works39_ans, c1]))))
  refine loop_range l encC (step := fun i x (_ : Unit) => .go ()) (fin := id)
    (St := fun i _ e h => (e 1 = .t (.sl false 1 (us.map encU)) ∧ e 5 = .t (.sl false 2 (l.map encC)) ∧ e 6 = .mp 0 ∧ e 26 = .t (.sl false 2 (l.map encC)) ∧ e 27 = .t (I6 (l.length : Nat)) ∧ e 28 = .t (I6 (i : Nat))) ∧ h = [mpO (l.take i)])
    (Ex := fun _ x e h => (e 1 = .t (.sl false 1 (us.map encU)) ∧ e 5 = .t (.sl false 2 (l.map encC)) ∧ e 6 = .mp 0) ∧ x = .exit 0 ∧ h = [mpO l]) (s := ()) (by omega) ?_ ?_ (by omega) ?_ ?_
  · intro i c z e h Y R hm hi hx hget hlt hw ⟨hs, hh⟩ hk
    subst hh
    simp only [ctlK_go] at hk
    have k1 := up48 (l.take i) c.1 c.2
    rw [take_put hv2 hx] at k1
    (simp only [il5l0_go, il5l0b, go_sem, reduceIte, Nat.reduceEqDiff, Nat.reduceAdd, Int.reduceEq, Nat.reduceLeDiff, Nat.reduceLT, Nat.reduceBEq, Nat.reduceMul, Nat.reduceSub, Int.reduceToNat, Int.reduceLE, Int.reduceLT, Int.reduceAdd, Int.reduceSub, Int.reduceMul, Int.reduceNeg, Int.reduceDiv, Int.reduceMod, Int.reduceTDiv, Int.reduceTMod, Int.reducePow, hs, hget, hlt, hw, encC_cells, k1, frzM] <;> (repeat' ((first | with_reducible refine brG_intro (fun hc => ?_) (fun hc => ?_) | with_reducible refine brC_intro (fun hc => ?_) (fun hc => ?_) | ((with_reducible refine c_opsD ?_); have hc := @List.length_nil Nat) | ((with_reducible refine c_opsT ?_); have hc := @List.length_nil Nat) | ((with_reducible refine and_crit ?_ ?_); rfl; have hc := @List.length_nil Nat) | ((with_reducible refine crit_done ?_); rfl) | ((with_reducible refine mkC_go (fun _ => ?_)); have hc := @List.length_nil Nat) | ((with_reducible refine mkL_go (fun _ => ?_)); have hc := @List.length_nil Nat)) <;> (try simp only [Bool.not_eq_true', Bool.not_eq_false', Bool.not_true, Bool.not_false] at hc) <;> (try simp only [hc, go_sem, reduceIte, Nat.reduceEqDiff, Nat.reduceAdd, Int.reduceEq, Nat.reduceLeDiff, Nat.reduceLT, Nat.reduceBEq, Nat.reduceMul, Nat.reduceSub, Int.reduceToNat, Int.reduceLE, Int.reduceLT, Int.reduceAdd, Int.reduceSub, Int.reduceMul, Int.reduceNeg, Int.reduceDiv, Int.reduceMod, Int.reduceTDiv, Int.reduceTMod, Int.reducePow, hs, hget, hlt, hw, encC_cells, k1, frzM]))))
    all_goals (refine hk _ _ ⟨?_, rfl⟩; simp only [go_sem, reduceIte, Nat.reduceEqDiff, Nat.reduceAdd, Int.reduceEq, Nat.reduceLeDiff, Nat.reduceLT, Nat.reduceBEq, Nat.reduceMul, Nat.reduceSub, Int.reduceToNat, Int.reduceLE, Int.reduceLT, Int.reduceAdd, Int.reduceSub, Int.reduceMul, Int.reduceNeg, Int.reduceDiv, Int.reduceMod, Int.reduceTDiv, Int.reduceTMod, Int.reducePow, hs, hw])
  · intro z e h Y R hlt ⟨hs, hh⟩ hk
    subst hh
    (simp only [il5l0_go, il5l0b, go_sem, reduceIte, Nat.reduceEqDiff, Nat.reduceAdd, Int.reduceEq, Nat.reduceLeDiff, Nat.reduceLT, Nat.reduceBEq, Nat.reduceMul, Nat.reduceSub, Int.reduceToNat, Int.reduceLE, Int.reduceLT, Int.reduceAdd, Int.reduceSub, Int.reduceMul, Int.reduceNeg, Int.reduceDiv, Int.reduceMod, Int.reduceTDiv, Int.reduceTMod, Int.reducePow, hs, hlt] <;> (repeat' ((first | with_reducible refine brG_intro (fun hc => ?_) (fun hc => ?_) | with_reducible refine brC_intro (fun hc => ?_) (fun hc => ?_) | ((with_reducible refine c_opsD ?_); have hc := @List.length_nil Nat) | ((with_reducible refine c_opsT ?_); have hc := @List.length_nil Nat) | ((with_reducible refine and_crit ?_ ?_); rfl; have hc := @List.length_nil Nat) | ((with_reducible refine crit_done ?_); rfl) | ((with_reducible refine mkC_go (fun _ => ?_)); have hc := @List.length_nil Nat) | ((with_reducible refine mkL_go (fun _ => ?_)); have hc := @List.length_nil Nat)) <;> (try simp only [Bool.not_eq_true', Bool.not_eq_false', Bool.not_true, Bool.not_false] at hc) <;> (try simp only [hc, go_sem, reduceIte, Nat.reduceEqDiff, Nat.reduceAdd, Int.reduceEq, Nat.reduceLeDiff, Nat.reduceLT, Nat.reduceBEq, Nat.reduceMul, Nat.reduceSub, Int.reduceToNat, Int.reduceLE, Int.reduceLT, Int.reduceAdd, Int.reduceSub, Int.reduceMul, Int.reduceNeg, Int.reduceDiv, Int.reduceMod, Int.reduceTDiv, Int.reduceTMod, Int.reducePow, hs, hlt]))))
    all_goals (refine hk _ _ _ ⟨?_, rfl, ?_⟩ <;> (try simp only [go_sem, reduceIte, Nat.reduceEqDiff, Nat.reduceAdd, Int.reduceEq, Nat.reduceLeDiff, Nat.reduceLT, Nat.reduceBEq, Nat.reduceMul, Nat.reduceSub, Int.reduceToNat, Int.reduceLE, Int.reduceLT, Int.reduceAdd, Int.reduceSub, Int.reduceMul, Int.reduceNeg, Int.reduceDiv, Int.reduceMod, Int.reduceTDiv, Int.reduceTMod, Int.reducePow, hs]))
    all_goals simp
  · refine ⟨?_, ?_⟩
    · simp only [go_sem, reduceIte, Nat.reduceEqDiff, Nat.reduceAdd, Int.reduceEq, Nat.reduceLeDiff, Nat.reduceLT, Nat.reduceBEq, Nat.reduceMul, Nat.reduceSub, Int.reduceToNat, Int.reduceLE, Int.reduceLT, Int.reduceAdd, Int.reduceSub, Int.reduceMul, Int.reduceNeg, Int.reduceDiv, Int.reduceMod, Int.reduceTDiv, Int.reduceTMod, Int.reducePow]
    · rfl
  · intro x e h ⟨hs, hx, hh⟩
    subst hx hh
    (simp only [il5c, go_sem, reduceIte, Nat.reduceEqDiff, Nat.reduceAdd, Int.reduceEq, Nat.reduceLeDiff, Nat.reduceLT, Nat.reduceBEq, Nat.reduceMul, Nat.reduceSub, Int.reduceToNat, Int.reduceLE, Int.reduceLT, Int.reduceAdd, Int.reduceSub, Int.reduceMul, Int.reduceNeg, Int.reduceDiv, Int.reduceMod, Int.reduceTDiv, Int.reduceTMod, Int.reducePow, hs, hmin, htake, hle] <;> (repeat' ((first | with_reducible refine brG_intro (fun hc => ?_) (fun hc => ?_) | with_reducible refine brC_intro (fun hc => ?_) (fun hc => ?_) | ((with_reducible refine c_opsD ?_); have hc := @List.length_nil Nat) | ((with_reducible refine c_opsT ?_); have hc := @List.length_nil Nat) | ((with_reducible refine and_crit ?_ ?_); rfl; have hc := @List.length_nil Nat) | ((with_reducible refine crit_done ?_); rfl) | ((with_reducible refine mkC_go (fun _ => ?_)); have hc := @List.length_nil Nat) | ((with_reducible refine mkL_go (fun _ => ?_)); have hc := @List.length_nil Nat)) <;> (try simp only [Bool.not_eq_true', Bool.not_eq_false', Bool.not_true, Bool.not_false] at hc) <;> (try simp only [hc, go_sem, reduceIte, Nat.reduceEqDiff, Nat.reduceAdd, Int.reduceEq, Nat.reduceLeDiff, Nat.reduceLT, Nat.reduceBEq, Nat.reduceMul, Nat.reduceSub, Int.reduceToNat, Int.reduceLE, Int.reduceLT, Int.reduceAdd, Int.reduceSub, Int.reduceMul, Int.reduceNeg, Int.reduceDiv, Int.reduceMod, Int.reduceTDiv, Int.reduceTMod, Int.reducePow, hs, hmin, htake, hle]))))
    refine loop_range us' encU (step := fun i u z => .go (stR z u)) (fin := id)
      (St := fun i z e h => (e 5 = .t (.sl false 2 (z.1.map encC)) ∧ e 6 = .mp 0 ∧ e 42 = .t (.sl false 1 (us'.map encU)) ∧ e 43 = .t (I6 (us'.length : Nat)) ∧ e 44 = .t (I6 (i : Nat))) ∧ h = [mpO z.2] ∧ runW z.1 z.2)
      (Ex := fun z x e h => (e 5 = .t (.sl false 2 (z.1.map encC)) ∧ e 6 = .mp 0) ∧ x = .exit 2 ∧ h = [mpO z.2] ∧ runW z.1 z.2) (s := (l, l)) (by omega) ?_ ?_ (by omega) ?_ ?_
    · intro i u z e h Y R hm hi hx hget hlt hw ⟨hs, hh, hz⟩ hk
      subst hh
      simp only [ctlK_go] at hk
      have hu := hus' u hm
      have hz' := stR_ok hz hu
      have w1 : u.tmod 20 = u % 20 := Int.tmod_eq_emod_of_nonneg hu.1
      have w2 : IntKind.i64.wrap (u % 20) = u % 20 := wrap_i64 (by omega) (by omega)
      have w3 : IntKind.i64.wrap (u % 20 * 100) = u % 20 * 100 := wrap_i64 (by omega) (by omega)
      have w4 : IntKind.i64.wrap (1 + u % 20 * 100) = strm u := wrap_i64 (by omega) (by omega)
      have hst : 1 ≤ strm u ∧ strm u ≤ 4095 := by unfold strm; omega
      obtain ⟨hv, hml, hmg⟩ := hz
      have n1 := next_ans z.1 (strm u)
      rw [nxt_ins hv hst] at n1
      have k1 := lkOk48 z.2 (strm u)
      have k2 := lk48 z.2 (strm u)
      have k3 := up48 z.2 (strm u)
      rw [hmg] at k1 k2
      have c2 := check_ans (stR z u).1
      rw [if_pos hz'.1] at c2
      unfold stR at hk hz' c2
      cases hc : mget z.1 (strm u) with
      | some v =>
        rw [hc] at n1 k1 k2 hk hz' c2
        simp only [Option.getD_some, Option.isSome_some, lst] at n1 k1 k2 c2
        have hv65 := (chk_mem hv.2 _ (mget_in hc)).2
        have w5 : IntKind.i64.wrap (v + 1) = v + 1 := wrap_i64 (by omega) (by omega)
        have w6 : (v + 1).tmod 65536 = (v + 1) % 65536 := Int.tmod_eq_emod_of_nonneg (by omega)
        (simp only [il5l1_go, il5l1b, go_sem, reduceIte, Nat.reduceEqDiff, Nat.reduceAdd, Int.reduceEq, Nat.reduceLeDiff, Nat.reduceLT, Nat.reduceBEq, Nat.reduceMul, Nat.reduceSub, Int.reduceToNat, Int.reduceLE, Int.reduceLT, Int.reduceAdd, Int.reduceSub, Int.reduceMul, Int.reduceNeg, Int.reduceDiv, Int.reduceMod, Int.reduceTDiv, Int.reduceTMod, Int.reducePow, hs, hget, hlt, hw, encU, tcells_sc, w1, w2, w3, w4, w5, w6, n1, k1, k2, k3, c2, frzM, decide_true] <;> (repeat' ((first | with_reducible refine brG_intro (fun hc => ?_) (fun hc => ?_) | with_reducible refine brC_intro (fun hc => ?_) (fun hc => ?_) | ((with_reducible refine c_opsD ?_); have hc := @List.length_nil Nat) | ((with_reducible refine c_opsT ?_); have hc := @List.length_nil Nat) | ((with_reducible refine and_crit ?_ ?_); rfl; have hc := @List.length_nil Nat) | ((with_reducible refine crit_done ?_); rfl) | ((with_reducible refine mkC_go (fun _ => ?_)); have hc := @List.length_nil Nat) | ((with_reducible refine mkL_go (fun _ => ?_)); have hc := @List.length_nil Nat)) <;> (try simp only [Bool.not_eq_true', Bool.not_eq_false', Bool.not_true, Bool.not_false] at hc) <;> (try simp only [hc, go_sem, reduceIte, Nat.reduceEqDiff, Nat.reduceAdd, Int.reduceEq, Nat.reduceLeDiff, Nat.reduceLT, Nat.reduceBEq, Nat.reduceMul, Nat.reduceSub, Int.reduceToNat, Int.reduceLE, Int.reduceLT, Int.reduceAdd, Int.reduceSub, Int.reduceMul, Int.reduceNeg, Int.reduceDiv, Int.reduceMod, Int.reduceTDiv, Int.reduceTMod, Int.reducePow, hs, hget, hlt, hw, encU, tcells_sc, w1, w2, w3, w4, w5, w6, n1, k1, k2, k3, c2, frzM, decide_true]))))
        all_goals (refine hk _ _ ⟨?_, rfl, hz'⟩; simp only [go_sem, reduceIte, Nat.reduceEqDiff, Nat.reduceAdd, Int.reduceEq, Nat.reduceLeDiff, Nat.reduceLT, Nat.reduceBEq, Nat.reduceMul, Nat.reduceSub, Int.reduceToNat, Int.reduceLE, Int.reduceLT, Int.reduceAdd, Int.reduceSub, Int.reduceMul, Int.reduceNeg, Int.reduceDiv, Int.reduceMod, Int.reduceTDiv, Int.reduceTMod, Int.reducePow, hs, hw])
      | none =>
        rw [hc] at n1 k1 k2 hk hz' c2
        simp only [Option.getD_none, Option.isSome_none] at n1 k1 k2 hk hz' c2
        by_cases h12 : z.1.length = 12
        · rw [if_pos h12] at n1
          rw [if_pos h12] at hk hz' c2
          simp only [err3, lst] at n1
          have l1 : decide (((z.2.length : Nat) : Int) = 12) = true := decide_eq_true (by omega)
          (simp only [il5l1_go, il5l1b, go_sem, reduceIte, Nat.reduceEqDiff, Nat.reduceAdd, Int.reduceEq, Nat.reduceLeDiff, Nat.reduceLT, Nat.reduceBEq, Nat.reduceMul, Nat.reduceSub, Int.reduceToNat, Int.reduceLE, Int.reduceLT, Int.reduceAdd, Int.reduceSub, Int.reduceMul, Int.reduceNeg, Int.reduceDiv, Int.reduceMod, Int.reduceTDiv, Int.reduceTMod, Int.reducePow, hs, hget, hlt, hw, encU, tcells_sc, w1, w2, w3, w4, n1, k1, k2, k3, c2, frzM, decide_true, encM_len, l1] <;> (repeat' ((first | with_reducible refine brG_intro (fun hc => ?_) (fun hc => ?_) | with_reducible refine brC_intro (fun hc => ?_) (fun hc => ?_) | ((with_reducible refine c_opsD ?_); have hc := @List.length_nil Nat) | ((with_reducible refine c_opsT ?_); have hc := @List.length_nil Nat) | ((with_reducible refine and_crit ?_ ?_); rfl; have hc := @List.length_nil Nat) | ((with_reducible refine crit_done ?_); rfl) | ((with_reducible refine mkC_go (fun _ => ?_)); have hc := @List.length_nil Nat) | ((with_reducible refine mkL_go (fun _ => ?_)); have hc := @List.length_nil Nat)) <;> (try simp only [Bool.not_eq_true', Bool.not_eq_false', Bool.not_true, Bool.not_false] at hc) <;> (try simp only [hc, go_sem, reduceIte, Nat.reduceEqDiff, Nat.reduceAdd, Int.reduceEq, Nat.reduceLeDiff, Nat.reduceLT, Nat.reduceBEq, Nat.reduceMul, Nat.reduceSub, Int.reduceToNat, Int.reduceLE, Int.reduceLT, Int.reduceAdd, Int.reduceSub, Int.reduceMul, Int.reduceNeg, Int.reduceDiv, Int.reduceMod, Int.reduceTDiv, Int.reduceTMod, Int.reducePow, hs, hget, hlt, hw, encU, tcells_sc, w1, w2, w3, w4, n1, k1, k2, k3, c2, frzM, decide_true, encM_len, l1]))))
          all_goals (refine hk _ _ ⟨?_, rfl, hz'⟩; simp only [go_sem, reduceIte, Nat.reduceEqDiff, Nat.reduceAdd, Int.reduceEq, Nat.reduceLeDiff, Nat.reduceLT, Nat.reduceBEq, Nat.reduceMul, Nat.reduceSub, Int.reduceToNat, Int.reduceLE, Int.reduceLT, Int.reduceAdd, Int.reduceSub, Int.reduceMul, Int.reduceNeg, Int.reduceDiv, Int.reduceMod, Int.reduceTDiv, Int.reduceTMod, Int.reducePow, hs, hw])
        · rw [if_neg h12] at n1
          rw [if_neg h12] at hk hz' c2
          simp only [lst] at n1
          have l1 : decide (((z.2.length : Nat) : Int) = 12) = false := decide_eq_false (by omega)
          have w5 : IntKind.i64.wrap (0 + 1) = 1 := wrap_i64 (by omega) (by omega)
          have w6 : (1 : Int).tmod 65536 = 1 := rfl
          (simp only [il5l1_go, il5l1b, go_sem, reduceIte, Nat.reduceEqDiff, Nat.reduceAdd, Int.reduceEq, Nat.reduceLeDiff, Nat.reduceLT, Nat.reduceBEq, Nat.reduceMul, Nat.reduceSub, Int.reduceToNat, Int.reduceLE, Int.reduceLT, Int.reduceAdd, Int.reduceSub, Int.reduceMul, Int.reduceNeg, Int.reduceDiv, Int.reduceMod, Int.reduceTDiv, Int.reduceTMod, Int.reducePow, hs, hget, hlt, hw, encU, tcells_sc, w1, w2, w3, w4, w5, w6, n1, k1, k2, k3, c2, frzM, decide_true, encM_len, l1] <;> (repeat' ((first | with_reducible refine brG_intro (fun hc => ?_) (fun hc => ?_) | with_reducible refine brC_intro (fun hc => ?_) (fun hc => ?_) | ((with_reducible refine c_opsD ?_); have hc := @List.length_nil Nat) | ((with_reducible refine c_opsT ?_); have hc := @List.length_nil Nat) | ((with_reducible refine and_crit ?_ ?_); rfl; have hc := @List.length_nil Nat) | ((with_reducible refine crit_done ?_); rfl) | ((with_reducible refine mkC_go (fun _ => ?_)); have hc := @List.length_nil Nat) | ((with_reducible refine mkL_go (fun _ => ?_)); have hc := @List.length_nil Nat)) <;> (try simp only [Bool.not_eq_true', Bool.not_eq_false', Bool.not_true, Bool.not_false] at hc) <;> (try simp only [hc, go_sem, reduceIte, Nat.reduceEqDiff, Nat.reduceAdd, Int.reduceEq, Nat.reduceLeDiff, Nat.reduceLT, Nat.reduceBEq, Nat.reduceMul, Nat.reduceSub, Int.reduceToNat, Int.reduceLE, Int.reduceLT, Int.reduceAdd, Int.reduceSub, Int.reduceMul, Int.reduceNeg, Int.reduceDiv, Int.reduceMod, Int.reduceTDiv, Int.reduceTMod, Int.reducePow, hs, hget, hlt, hw, encU, tcells_sc, w1, w2, w3, w4, w5, w6, n1, k1, k2, k3, c2, frzM, decide_true, encM_len, l1]))))
          all_goals (refine hk _ _ ⟨?_, rfl, hz'⟩; simp only [go_sem, reduceIte, Nat.reduceEqDiff, Nat.reduceAdd, Int.reduceEq, Nat.reduceLeDiff, Nat.reduceLT, Nat.reduceBEq, Nat.reduceMul, Nat.reduceSub, Int.reduceToNat, Int.reduceLE, Int.reduceLT, Int.reduceAdd, Int.reduceSub, Int.reduceMul, Int.reduceNeg, Int.reduceDiv, Int.reduceMod, Int.reduceTDiv, Int.reduceTMod, Int.reducePow, hs, hw])
    · intro z e h Y R hlt ⟨hs, hh, hz⟩ hk
      subst hh
      (simp only [il5l1_go, il5l1b, go_sem, reduceIte, Nat.reduceEqDiff, Nat.reduceAdd, Int.reduceEq, Nat.reduceLeDiff, Nat.reduceLT, Nat.reduceBEq, Nat.reduceMul, Nat.reduceSub, Int.reduceToNat, Int.reduceLE, Int.reduceLT, Int.reduceAdd, Int.reduceSub, Int.reduceMul, Int.reduceNeg, Int.reduceDiv, Int.reduceMod, Int.reduceTDiv, Int.reduceTMod, Int.reducePow, hs, hlt] <;> (repeat' ((first | with_reducible refine brG_intro (fun hc => ?_) (fun hc => ?_) | with_reducible refine brC_intro (fun hc => ?_) (fun hc => ?_) | ((with_reducible refine c_opsD ?_); have hc := @List.length_nil Nat) | ((with_reducible refine c_opsT ?_); have hc := @List.length_nil Nat) | ((with_reducible refine and_crit ?_ ?_); rfl; have hc := @List.length_nil Nat) | ((with_reducible refine crit_done ?_); rfl) | ((with_reducible refine mkC_go (fun _ => ?_)); have hc := @List.length_nil Nat) | ((with_reducible refine mkL_go (fun _ => ?_)); have hc := @List.length_nil Nat)) <;> (try simp only [Bool.not_eq_true', Bool.not_eq_false', Bool.not_true, Bool.not_false] at hc) <;> (try simp only [hc, go_sem, reduceIte, Nat.reduceEqDiff, Nat.reduceAdd, Int.reduceEq, Nat.reduceLeDiff, Nat.reduceLT, Nat.reduceBEq, Nat.reduceMul, Nat.reduceSub, Int.reduceToNat, Int.reduceLE, Int.reduceLT, Int.reduceAdd, Int.reduceSub, Int.reduceMul, Int.reduceNeg, Int.reduceDiv, Int.reduceMod, Int.reduceTDiv, Int.reduceTMod, Int.reducePow, hs, hlt]))))
      all_goals (refine hk _ _ _ ⟨?_, rfl, rfl, hz⟩; simp only [go_sem, reduceIte, Nat.reduceEqDiff, Nat.reduceAdd, Int.reduceEq, Nat.reduceLeDiff, Nat.reduceLT, Nat.reduceBEq, Nat.reduceMul, Nat.reduceSub, Int.reduceToNat, Int.reduceLE, Int.reduceLT, Int.reduceAdd, Int.reduceSub, Int.reduceMul, Int.reduceNeg, Int.reduceDiv, Int.reduceMod, Int.reduceTDiv, Int.reduceTMod, Int.reducePow, hs, id])
    · refine ⟨?_, rfl, ⟨hv1, hv2⟩, rfl, fun _ => rfl⟩
      simp only [go_sem, reduceIte, Nat.reduceEqDiff, Nat.reduceAdd, Int.reduceEq, Nat.reduceLeDiff, Nat.reduceLT, Nat.reduceBEq, Nat.reduceMul, Nat.reduceSub, Int.reduceToNat, Int.reduceLE, Int.reduceLT, Int.reduceAdd, Int.reduceSub, Int.reduceMul, Int.reduceNeg, Int.reduceDiv, Int.reduceMod, Int.reduceTDiv, Int.reduceTMod, Int.reducePow, hs]
    · intro x e h ⟨hs, hx, hh, hz⟩
      subst hx hh
      generalize foldC (fun i u z => Ctl.go (stR z u)) id 0 us' (l, l) = z at hs hz ⊢
      obtain ⟨L, M⟩ := z
      obtain ⟨⟨q1, q2⟩, q3, q4⟩ := hz
      simp only at q1 q2 q3 q4 hs ⊢
      have l1 : decide (((L.length : Nat) : Int) = ((M.length : Nat) : Int)) = true := decide_eq_true (by omega)
      (simp only [il5c, go_sem, reduceIte, Nat.reduceEqDiff, Nat.reduceAdd, Int.reduceEq, Nat.reduceLeDiff, Nat.reduceLT, Nat.reduceBEq, Nat.reduceMul, Nat.reduceSub, Int.reduceToNat, Int.reduceLE, Int.reduceLT, Int.reduceAdd, Int.reduceSub, Int.reduceMul, Int.reduceNeg, Int.reduceDiv, Int.reduceMod, Int.reduceTDiv, Int.reduceTMod, Int.reducePow, hs, encM_len, l1] <;> (repeat' ((first | with_reducible refine brG_intro (fun hc => ?_) (fun hc => ?_) | with_reducible refine brC_intro (fun hc => ?_) (fun hc => ?_) | ((with_reducible refine c_opsD ?_); have hc := @List.length_nil Nat) | ((with_reducible refine c_opsT ?_); have hc := @List.length_nil Nat) | ((with_reducible refine and_crit ?_ ?_); rfl; have hc := @List.length_nil Nat) | ((with_reducible refine crit_done ?_); rfl) | ((with_reducible refine mkC_go (fun _ => ?_)); have hc := @List.length_nil Nat) | ((with_reducible refine mkL_go (fun _ => ?_)); have hc := @List.length_nil Nat)) <;> (try simp only [Bool.not_eq_true', Bool.not_eq_false', Bool.not_true, Bool.not_false] at hc) <;> (try simp only [hc, go_sem, reduceIte, Nat.reduceEqDiff, Nat.reduceAdd, Int.reduceEq, Nat.reduceLeDiff, Nat.reduceLT, Nat.reduceBEq, Nat.reduceMul, Nat.reduceSub, Int.reduceToNat, Int.reduceLE, Int.reduceLT, Int.reduceAdd, Int.reduceSub, Int.reduceMul, Int.reduceNeg, Int.reduceDiv, Int.reduceMod, Int.reduceTDiv, Int.reduceTMod, Int.reducePow, hs, encM_len, l1]))))
      refine loop_range L encC (step := fun i x (_ : Unit) => .go ()) (fin := id)
        (St := fun i _ e h => (e 6 = .mp 0 ∧ e 101 = .t (.sl false 2 (L.map encC)) ∧ e 102 = .t (I6 (L.length : Nat)) ∧ e 103 = .t (I6 (i : Nat))) ∧ h = [mpO M])
        (Ex := fun _ x e h => x = .exit 4) (s := ()) (by omega) ?_ ?_ (by omega) ?_ ?_
      · intro i c z e h Y R hm hi hx hget hlt hw ⟨hs, hh⟩ hk
        subst hh
        simp only [ctlK_go] at hk
        have k1 := lkOk48 M c.1
        rw [q4, mget_mem q2 c hm] at k1
        simp only [Option.getD_some, Option.isSome_some] at k1
        (simp only [il5l2_go, il5l2b, go_sem, reduceIte, Nat.reduceEqDiff, Nat.reduceAdd, Int.reduceEq, Nat.reduceLeDiff, Nat.reduceLT, Nat.reduceBEq, Nat.reduceMul, Nat.reduceSub, Int.reduceToNat, Int.reduceLE, Int.reduceLT, Int.reduceAdd, Int.reduceSub, Int.reduceMul, Int.reduceNeg, Int.reduceDiv, Int.reduceMod, Int.reduceTDiv, Int.reduceTMod, Int.reducePow, hs, hget, hlt, hw, encC_cells, k1, frzM, decide_true] <;> (repeat' ((first | with_reducible refine brG_intro (fun hc => ?_) (fun hc => ?_) | with_reducible refine brC_intro (fun hc => ?_) (fun hc => ?_) | ((with_reducible refine c_opsD ?_); have hc := @List.length_nil Nat) | ((with_reducible refine c_opsT ?_); have hc := @List.length_nil Nat) | ((with_reducible refine and_crit ?_ ?_); rfl; have hc := @List.length_nil Nat) | ((with_reducible refine crit_done ?_); rfl) | ((with_reducible refine mkC_go (fun _ => ?_)); have hc := @List.length_nil Nat) | ((with_reducible refine mkL_go (fun _ => ?_)); have hc := @List.length_nil Nat)) <;> (try simp only [Bool.not_eq_true', Bool.not_eq_false', Bool.not_true, Bool.not_false] at hc) <;> (try simp only [hc, go_sem, reduceIte, Nat.reduceEqDiff, Nat.reduceAdd, Int.reduceEq, Nat.reduceLeDiff, Nat.reduceLT, Nat.reduceBEq, Nat.reduceMul, Nat.reduceSub, Int.reduceToNat, Int.reduceLE, Int.reduceLT, Int.reduceAdd, Int.reduceSub, Int.reduceMul, Int.reduceNeg, Int.reduceDiv, Int.reduceMod, Int.reduceTDiv, Int.reduceTMod, Int.reducePow, hs, hget, hlt, hw, encC_cells, k1, frzM, decide_true]))))
        all_goals (refine hk _ _ ⟨?_, rfl⟩; simp only [go_sem, reduceIte, Nat.reduceEqDiff, Nat.reduceAdd, Int.reduceEq, Nat.reduceLeDiff, Nat.reduceLT, Nat.reduceBEq, Nat.reduceMul, Nat.reduceSub, Int.reduceToNat, Int.reduceLE, Int.reduceLT, Int.reduceAdd, Int.reduceSub, Int.reduceMul, Int.reduceNeg, Int.reduceDiv, Int.reduceMod, Int.reduceTDiv, Int.reduceTMod, Int.reducePow, hs, hw])
      · intro z e h Y R hlt ⟨hs, hh⟩ hk
        subst hh
        (simp only [il5l2_go, il5l2b, go_sem, reduceIte, Nat.reduceEqDiff, Nat.reduceAdd, Int.reduceEq, Nat.reduceLeDiff, Nat.reduceLT, Nat.reduceBEq, Nat.reduceMul, Nat.reduceSub, Int.reduceToNat, Int.reduceLE, Int.reduceLT, Int.reduceAdd, Int.reduceSub, Int.reduceMul, Int.reduceNeg, Int.reduceDiv, Int.reduceMod, Int.reduceTDiv, Int.reduceTMod, Int.reducePow, hs, hlt] <;> (repeat' ((first | with_reducible refine brG_intro (fun hc => ?_) (fun hc => ?_) | with_reducible refine brC_intro (fun hc => ?_) (fun hc => ?_) | ((with_reducible refine c_opsD ?_); have hc := @List.length_nil Nat) | ((with_reducible refine c_opsT ?_); have hc := @List.length_nil Nat) | ((with_reducible refine and_crit ?_ ?_); rfl; have hc := @List.length_nil Nat) | ((with_reducible refine crit_done ?_); rfl) | ((with_reducible refine mkC_go (fun _ => ?_)); have hc := @List.length_nil Nat) | ((with_reducible refine mkL_go (fun _ => ?_)); have hc := @List.length_nil Nat)) <;> (try simp only [Bool.not_eq_true', Bool.not_eq_false', Bool.not_true, Bool.not_false] at hc) <;> (try simp only [hc, go_sem, reduceIte, Nat.reduceEqDiff, Nat.reduceAdd, Int.reduceEq, Nat.reduceLeDiff, Nat.reduceLT, Nat.reduceBEq, Nat.reduceMul, Nat.reduceSub, Int.reduceToNat, Int.reduceLE, Int.reduceLT, Int.reduceAdd, Int.reduceSub, Int.reduceMul, Int.reduceNeg, Int.reduceDiv, Int.reduceMod, Int.reduceTDiv, Int.reduceTMod, Int.reducePow, hs, hlt]))))
        all_goals (refine hk _ _ _ ?_; simp only [go_sem, reduceIte, Nat.reduceEqDiff, Nat.reduceAdd, Int.reduceEq, Nat.reduceLeDiff, Nat.reduceLT, Nat.reduceBEq, Nat.reduceMul, Nat.reduceSub, Int.reduceToNat, Int.reduceLE, Int.reduceLT, Int.reduceAdd, Int.reduceSub, Int.reduceMul, Int.reduceNeg, Int.reduceDiv, Int.reduceMod, Int.reduceTDiv, Int.reduceTMod, Int.reducePow, id])
      · refine ⟨?_, ?_⟩
        · simp only [go_sem, reduceIte, Nat.reduceEqDiff, Nat.reduceAdd, Int.reduceEq, Nat.reduceLeDiff, Nat.reduceLT, Nat.reduceBEq, Nat.reduceMul, Nat.reduceSub, Int.reduceToNat, Int.reduceLE, Int.reduceLT, Int.reduceAdd, Int.reduceSub, Int.reduceMul, Int.reduceNeg, Int.reduceDiv, Int.reduceMod, Int.reduceTDiv, Int.reduceTMod, Int.reducePow, hs]
        · rfl
      · intro x e h hx
        subst hx
        (simp only [il5c, go_sem, reduceIte, Nat.reduceEqDiff, Nat.reduceAdd, Int.reduceEq, Nat.reduceLeDiff, Nat.reduceLT, Nat.reduceBEq, Nat.reduceMul, Nat.reduceSub, Int.reduceToNat, Int.reduceLE, Int.reduceLT, Int.reduceAdd, Int.reduceSub, Int.reduceMul, Int.reduceNeg, Int.reduceDiv, Int.reduceMod, Int.reduceTDiv, Int.reduceTMod, Int.reducePow] <;> (repeat' ((first | with_reducible refine brG_intro (fun hc => ?_) (fun hc => ?_) | with_reducible refine brC_intro (fun hc => ?_) (fun hc => ?_) | ((with_reducible refine c_opsD ?_); have hc := @List.length_nil Nat) | ((with_reducible refine c_opsT ?_); have hc := @List.length_nil Nat) | ((with_reducible refine and_crit ?_ ?_); rfl; have hc := @List.length_nil Nat) | ((with_reducible refine crit_done ?_); rfl) | ((with_reducible refine mkC_go (fun _ => ?_)); have hc := @List.length_nil Nat) | ((with_reducible refine mkL_go (fun _ => ?_)); have hc := @List.length_nil Nat)) <;> (try simp only [Bool.not_eq_true', Bool.not_eq_false', Bool.not_true, Bool.not_false] at hc) <;> (try simp only [hc, go_sem, reduceIte, Nat.reduceEqDiff, Nat.reduceAdd, Int.reduceEq, Nat.reduceLeDiff, Nat.reduceLT, Nat.reduceBEq, Nat.reduceMul, Nat.reduceSub, Int.reduceToNat, Int.reduceLE, Int.reduceLT, Int.reduceAdd, Int.reduceSub, Int.reduceMul, Int.reduceNeg, Int.reduceDiv, Int.reduceMod, Int.reduceTDiv, Int.reduceTMod, Int.reducePow]))))

end Go.Proofs.Ytkamfflnfnjbeaa
