/- The law ElectTree. -/
import Derived.Test.YtboknhdkadcaeaaElL
import Derived.Test.YtboknhdkadcaeaaElD
namespace Go.Proofs.Ytboknhdkadcaeaa
open Go Go.Abs
set_option linter.unusedSimpArgs false
set_option linter.unusedVariables false
set_option maxRecDepth 100000
set_option maxHeartbeats 4000000

theorem OwnV_ok (ms : List Ms) (lk : List (Int × Int)) (i : Nat) (h : okS ms lk = true) (hi : i < ms.length) : ans Try.prog pol 16 [spT ms lk, I' (i : Nat)] = some (.tup [vcT (ownV ms i), I' 0]) :=
  Own_ok ms lk i (msAt ms i) h (okS_len h).1.2 (by simp [msAt, hi])
theorem CompareV_ans (a b : Vc) : ans Try.prog pol 18 [vcT a, vcT b] = some (I' (cmpV a b)) :=
  Compare_ans a.m.p1 a.m.cl a.m.ac a.m.va a.m.p2 a.m.id a.st a.sn a.ln b.m.p1 b.m.cl b.m.ac b.m.va b.m.p2 b.m.id b.st b.sn b.ln

/-- The vectors of Elect, seen node by node. -/
theorem at_root {ms : List Ms} {lk : List (Int × Int)} (hn : Net ms lk) {v : List Vc} (hf : ∀ i, i < ms.length → Fin' ms lk i (vAt v i)) {r : Nat} (ht : Top ms lk r r) : vAt v r = ownV ms r := by
  obtain ⟨q, d, h1, h2, h3, h4, h5, _⟩ := hf r ht.1
  obtain rfl := top_uniq hn ht h1
  have hd : d = 0 := Nat.le_zero.1 (h2.2 0 rfl)
  obtain ⟨s1, s2⟩ := h5 hd
  subst hd
  generalize vAt v r = x at *
  obtain ⟨xm, xs, xn, xl⟩ := x
  simp only at *
  subst h3 h4 s1 s2
  rfl
theorem at_step {ms : List Ms} {lk : List (Int × Int)} (hn : Net ms lk) {v : List Vc} (hf : ∀ i, i < ms.length → Fin' ms lk i (vAt v i)) {r a n : Nat} (ha : a < ms.length) (ht : Top ms lk r a) (hd : Dist lk r a (n + 1)) :
    ∃ k j : Nat, vAt v a = ⟨msAt ms r, ((n + 1 : Nat) : Int), j, k⟩ ∧ Adj lk k a j ∧ Dist lk r j n := by
  obtain ⟨q, d, h1, h2, h3, h4, _, h6⟩ := hf a ha
  obtain rfl := top_uniq hn ht h1
  obtain rfl := hd.uniq h2
  obtain ⟨k, j, s1, s2, s3, s4, _⟩ := h6 (by omega)
  refine ⟨k, j, ?_, s3, by simpa using s4⟩
  generalize vAt v a = x at *
  obtain ⟨xm, xs, xn, xl⟩ := x
  simp only at *
  subst h3 h4 s1 s2
  rfl

abbrev spH (ms : List Ms) (lk : List (Int × Int)) : AObj := .row 2 [.t (.agg [.sl false 6 (ms.map encMs), .sl false 2 (lk.map encLk)])] 1

theorem tree_l0 (ms : List Ms) (lk : List (Int × Int)) (v : List Vc) (hn : Net ms lk) (hlk : lk.length ≤ 24) (hv : v.length = ms.length) (hf : ∀ i, i < ms.length → Fin' ms lk i (vAt v i))
    (i : Nat) (hi : i < ms.length) (r d : Nat) (ht : Top ms lk r i) (hd : Dist lk r i d) (x : Vc) (hx : x.m = msAt ms r) (J : Inl) (n0 : Nat) (R : Xit → FEnv → Heap → Prop) (e : FEnv)
    (he : e 3 = .ref 0 1 0 0 ∧ e 4 = .t (.sl true 9 (v.map encV)) ∧ e 6 = .t (I' (i : Nat)) ∧ e 7 = .ref 1 1 0 0 ∧ e 8 = .t (I' (i : Nat)) ∧ e 9 = .t (I' (d : Nat)) ∧ e 39 = .t (.sl true 9 (v.map encV)) ∧ e 40 = .t (I' (v.length : Nat)) ∧ e 41 = .t (I' (i : Nat)))
    (hR : ∀ e, (e 3 = .ref 0 1 0 0 ∧ e 4 = .t (.sl true 9 (v.map encV)) ∧ e 6 = .t (I' (i : Nat)) ∧ e 7 = .ref 1 1 0 0 ∧ e 8 = .t (I' (r : Nat)) ∧ e 39 = .t (.sl true 9 (v.map encV)) ∧ e 40 = .t (I' (v.length : Nat)) ∧ e 41 = .t (I' (i : Nat))) → R (.exit 2) e [spH ms lk, .row 9 [.t (vcT x)] 1]) :
    wpIter 2 (some [3, 4, 6, 7, 8, 9, 39, 40, 41]) (wc Try.prog pol (ans Try.prog pol) J n0 6 il6l0) R 100 e [spH ms lk, .row 9 [.t (vcT x)] 1] := by
  have hd12 := Dist.lt hn hd ht.1
  have hl12 := hn.len
  refine loop_upto d (step := fun i (_ : Unit) => Ctl.go ()) (fin := id)
    (St := fun t _ e h => (e 3 = .ref 0 1 0 0 ∧ e 4 = .t (.sl true 9 (v.map encV)) ∧ e 6 = .t (I' (i : Nat)) ∧ e 7 = .ref 1 1 0 0 ∧ e 9 = .t (I' ((d - t : Nat) : Int)) ∧ e 39 = .t (.sl true 9 (v.map encV)) ∧ e 40 = .t (I' (v.length : Nat)) ∧ e 41 = .t (I' (i : Nat))) ∧ h = [spH ms lk, .row 9 [.t (vcT x)] 1] ∧ ∃ a : Nat, e 8 = .t (I' (a : Nat)) ∧ a < ms.length ∧ Top ms lk r a ∧ Dist lk r a (d - t))
    (Ex := fun _ y e h => (e 3 = .ref 0 1 0 0 ∧ e 4 = .t (.sl true 9 (v.map encV)) ∧ e 6 = .t (I' (i : Nat)) ∧ e 7 = .ref 1 1 0 0 ∧ e 8 = .t (I' (r : Nat)) ∧ e 39 = .t (.sl true 9 (v.map encV)) ∧ e 40 = .t (I' (v.length : Nat)) ∧ e 41 = .t (I' (i : Nat))) ∧ y = .exit 2 ∧ h = [spH ms lk, .row 9 [.t (vcT x)] 1]) (s := ()) (by omega) ?_ ?_ (by omega) ?_ ?_
  · intro t _ e h Y R ht' _ _ ⟨hs, hh, a, h8, hal, hta, hda⟩ hk
    subst hh
    simp only [ctlK_go] at hk
    obtain ⟨n, hnn⟩ : ∃ n, d - t = n + 1 := ⟨d - t - 1, by omega⟩
    have hnx : d - (t + 1) = n := by omega
    rw [hnn] at hda hs
    rw [hnx] at hk
    obtain ⟨k, j, hva, hadj, hdj⟩ := at_step hn hf hal hta hda
    obtain ⟨_, hj, hne⟩ := adj_of hn hadj
    have hva' : v[a]? = some ⟨msAt ms r, ((n + 1 : Nat) : Int), j, k⟩ := by
      have hal' : a < v.length := by omega
      rw [vAt, List.getElem?_eq_getElem hal'] at hva
      rw [List.getElem?_eq_getElem hal']
      simpa using hva
    have hg : (v.map encV)[a]? = some (encV ⟨msAt ms r, ((n + 1 : Nat) : Int), j, k⟩) := by simp [hva']
    have hkl : k < lk.length := by rcases hadj with h | h <;> exact (List.getElem?_eq_some_iff.1 h).1
    have htj : Top ms lk r j := top_of_reach hta ⟨1, ⟨a, k, hadj, rfl⟩⟩
    have d0 : decide (0 < ((n + 1 : Nat) : Int)) = true := decide_eq_true (by omega)
    have d1 : decide (((k : Nat) : Int) < 0) = false := decide_eq_false (by omega)
    have d2 : decide (((lk.length : Nat) : Int) ≤ (k : Nat)) = false := decide_eq_false (by omega)
    have d3 : decide (((j : Nat) : Int) < 0) = false := decide_eq_false (by omega)
    have d4 : decide (((v.length : Nat) : Int) ≤ (j : Nat)) = false := decide_eq_false (by omega)
    have v1 : IntKind.i64.wrap (((n + 1 : Nat) : Int) - 1) = ((n : Nat) : Int) := by rw [wrap_i64 (by omega) (by omega)]; omega
    have q1 : decide ((j : Int) = a ∧ (a : Int) = j) = false := decide_eq_false (by omega)
    have hfin : ∀ e h, (e 3 = .ref 0 1 0 0 ∧ e 4 = .t (.sl true 9 (v.map encV)) ∧ e 6 = .t (I' (i : Nat)) ∧ e 7 = .ref 1 1 0 0 ∧ e 9 = .t (I' ((n : Nat) : Int)) ∧ e 39 = .t (.sl true 9 (v.map encV)) ∧ e 40 = .t (I' (v.length : Nat)) ∧ e 41 = .t (I' (i : Nat))) ∧ e 8 = .t (I' (j : Nat)) → h = [spH ms lk, .row 9 [.t (vcT x)] 1] → Y e h := fun e h g1 g2 => hk e h ⟨g1.1, g2, j, g1.2, hj, htj, hdj⟩
    clear hk
    rw [← hx] at hg
    rcases hadj with hlk' | hlk'
    · have hgl : (lk.map encLk)[k]? = some (encLk ((a : Int), (j : Int))) := by simp [hlk']
      (simp only [il6l0_go, il6l0b, go_sem, reduceIte, Nat.reduceEqDiff, Nat.reduceAdd, Int.reduceEq, Nat.reduceLeDiff, Nat.reduceLT, Nat.reduceBEq, Nat.reduceMul, Nat.reduceSub, Int.reduceToNat, Int.reduceLE, Int.reduceLT, Int.reduceAdd, Int.reduceSub, Int.reduceMul, Int.reduceNeg, Int.reduceDiv, Int.reduceMod, Int.reduceTDiv, Int.reduceTMod, Int.reducePow, hs, h8, hg, hgl, encV_cells, encLk_cells, d0, d1, d2, d3, d4, v1, q1] <;> (repeat' ((first | with_reducible refine brG_intro (fun hc => ?_) (fun hc => ?_) | with_reducible refine brC_intro (fun hc => ?_) (fun hc => ?_) | ((with_reducible refine c_opsD ?_); have hc := @List.length_nil Nat) | ((with_reducible refine c_opsT ?_); have hc := @List.length_nil Nat) | ((with_reducible refine and_crit ?_ ?_); rfl; have hc := @List.length_nil Nat) | ((with_reducible refine crit_done ?_); rfl) | ((with_reducible refine mkC_go (fun _ => ?_)); have hc := @List.length_nil Nat) | ((with_reducible refine mkL_go (fun _ => ?_)); have hc := @List.length_nil Nat)) <;> (try simp only [Bool.not_eq_true', Bool.not_eq_false', Bool.not_true, Bool.not_false] at hc) <;> (try simp only [hc, go_sem, reduceIte, Nat.reduceEqDiff, Nat.reduceAdd, Int.reduceEq, Nat.reduceLeDiff, Nat.reduceLT, Nat.reduceBEq, Nat.reduceMul, Nat.reduceSub, Int.reduceToNat, Int.reduceLE, Int.reduceLT, Int.reduceAdd, Int.reduceSub, Int.reduceMul, Int.reduceNeg, Int.reduceDiv, Int.reduceMod, Int.reduceTDiv, Int.reduceTMod, Int.reducePow, hs, h8, hg, hgl, encV_cells, encLk_cells, d0, d1, d2, d3, d4, v1, q1]))))
      all_goals (refine hfin _ _ ⟨?_, ?_⟩ rfl <;> simp only [go_sem, reduceIte, Nat.reduceEqDiff, Nat.reduceAdd, Int.reduceEq, Nat.reduceLeDiff, Nat.reduceLT, Nat.reduceBEq, Nat.reduceMul, Nat.reduceSub, Int.reduceToNat, Int.reduceLE, Int.reduceLT, Int.reduceAdd, Int.reduceSub, Int.reduceMul, Int.reduceNeg, Int.reduceDiv, Int.reduceMod, Int.reduceTDiv, Int.reduceTMod, Int.reducePow, hs, h8])
    · have hgl : (lk.map encLk)[k]? = some (encLk ((j : Int), (a : Int))) := by simp [hlk']
      (simp only [il6l0_go, il6l0b, go_sem, reduceIte, Nat.reduceEqDiff, Nat.reduceAdd, Int.reduceEq, Nat.reduceLeDiff, Nat.reduceLT, Nat.reduceBEq, Nat.reduceMul, Nat.reduceSub, Int.reduceToNat, Int.reduceLE, Int.reduceLT, Int.reduceAdd, Int.reduceSub, Int.reduceMul, Int.reduceNeg, Int.reduceDiv, Int.reduceMod, Int.reduceTDiv, Int.reduceTMod, Int.reducePow, hs, h8, hg, hgl, encV_cells, encLk_cells, d0, d1, d2, d3, d4, v1, q1] <;> (repeat' ((first | with_reducible refine brG_intro (fun hc => ?_) (fun hc => ?_) | with_reducible refine brC_intro (fun hc => ?_) (fun hc => ?_) | ((with_reducible refine c_opsD ?_); have hc := @List.length_nil Nat) | ((with_reducible refine c_opsT ?_); have hc := @List.length_nil Nat) | ((with_reducible refine and_crit ?_ ?_); rfl; have hc := @List.length_nil Nat) | ((with_reducible refine crit_done ?_); rfl) | ((with_reducible refine mkC_go (fun _ => ?_)); have hc := @List.length_nil Nat) | ((with_reducible refine mkL_go (fun _ => ?_)); have hc := @List.length_nil Nat)) <;> (try simp only [Bool.not_eq_true', Bool.not_eq_false', Bool.not_true, Bool.not_false] at hc) <;> (try simp only [hc, go_sem, reduceIte, Nat.reduceEqDiff, Nat.reduceAdd, Int.reduceEq, Nat.reduceLeDiff, Nat.reduceLT, Nat.reduceBEq, Nat.reduceMul, Nat.reduceSub, Int.reduceToNat, Int.reduceLE, Int.reduceLT, Int.reduceAdd, Int.reduceSub, Int.reduceMul, Int.reduceNeg, Int.reduceDiv, Int.reduceMod, Int.reduceTDiv, Int.reduceTMod, Int.reducePow, hs, h8, hg, hgl, encV_cells, encLk_cells, d0, d1, d2, d3, d4, v1, q1]))))
      all_goals (refine hfin _ _ ⟨?_, ?_⟩ rfl <;> simp only [go_sem, reduceIte, Nat.reduceEqDiff, Nat.reduceAdd, Int.reduceEq, Nat.reduceLeDiff, Nat.reduceLT, Nat.reduceBEq, Nat.reduceMul, Nat.reduceSub, Int.reduceToNat, Int.reduceLE, Int.reduceLT, Int.reduceAdd, Int.reduceSub, Int.reduceMul, Int.reduceNeg, Int.reduceDiv, Int.reduceMod, Int.reduceTDiv, Int.reduceTMod, Int.reducePow, hs, h8])
  · intro _ e h Y R _ ⟨hs, hh, a, h8, hal, hta, hda⟩ hk
    subst hh
    rw [Nat.sub_self] at hs hda
    obtain rfl : r = a := hda.1
    (simp only [il6l0_go, il6l0b, go_sem, reduceIte, Nat.reduceEqDiff, Nat.reduceAdd, Int.reduceEq, Nat.reduceLeDiff, Nat.reduceLT, Nat.reduceBEq, Nat.reduceMul, Nat.reduceSub, Int.reduceToNat, Int.reduceLE, Int.reduceLT, Int.reduceAdd, Int.reduceSub, Int.reduceMul, Int.reduceNeg, Int.reduceDiv, Int.reduceMod, Int.reduceTDiv, Int.reduceTMod, Int.reducePow, hs, h8] <;> (repeat' ((first | with_reducible refine brG_intro (fun hc => ?_) (fun hc => ?_) | with_reducible refine brC_intro (fun hc => ?_) (fun hc => ?_) | ((with_reducible refine c_opsD ?_); have hc := @List.length_nil Nat) | ((with_reducible refine c_opsT ?_); have hc := @List.length_nil Nat) | ((with_reducible refine and_crit ?_ ?_); rfl; have hc := @List.length_nil Nat) | ((with_reducible refine crit_done ?_); rfl) | ((with_reducible refine mkC_go (fun _ => ?_)); have hc := @List.length_nil Nat) | ((with_reducible refine mkL_go (fun _ => ?_)); have hc := @List.length_nil Nat)) <;> (try simp only [Bool.not_eq_true', Bool.not_eq_false', Bool.not_true, Bool.not_false] at hc) <;> (try simp only [hc, go_sem, reduceIte, Nat.reduceEqDiff, Nat.reduceAdd, Int.reduceEq, Nat.reduceLeDiff, Nat.reduceLT, Nat.reduceBEq, Nat.reduceMul, Nat.reduceSub, Int.reduceToNat, Int.reduceLE, Int.reduceLT, Int.reduceAdd, Int.reduceSub, Int.reduceMul, Int.reduceNeg, Int.reduceDiv, Int.reduceMod, Int.reduceTDiv, Int.reduceTMod, Int.reducePow, hs, h8]))))
    all_goals (refine hk _ _ _ ⟨?_, rfl, rfl⟩; simp only [go_sem, reduceIte, Nat.reduceEqDiff, Nat.reduceAdd, Int.reduceEq, Nat.reduceLeDiff, Nat.reduceLT, Nat.reduceBEq, Nat.reduceMul, Nat.reduceSub, Int.reduceToNat, Int.reduceLE, Int.reduceLT, Int.reduceAdd, Int.reduceSub, Int.reduceMul, Int.reduceNeg, Int.reduceDiv, Int.reduceMod, Int.reduceTDiv, Int.reduceTMod, Int.reducePow, hs, h8])
  · refine ⟨?_, rfl, i, ?_, hi, ht, by simpa using hd⟩
    · simp only [go_sem, reduceIte, Nat.reduceEqDiff, Nat.reduceAdd, Int.reduceEq, Nat.reduceLeDiff, Nat.reduceLT, Nat.reduceBEq, Nat.reduceMul, Nat.reduceSub, Int.reduceToNat, Int.reduceLE, Int.reduceLT, Int.reduceAdd, Int.reduceSub, Int.reduceMul, Int.reduceNeg, Int.reduceDiv, Int.reduceMod, Int.reduceTDiv, Int.reduceTMod, Int.reducePow, he, Nat.sub_zero]
    · simp only [go_sem, reduceIte, Nat.reduceEqDiff, Nat.reduceAdd, Int.reduceEq, Nat.reduceLeDiff, Nat.reduceLT, Nat.reduceBEq, Nat.reduceMul, Nat.reduceSub, Int.reduceToNat, Int.reduceLE, Int.reduceLT, Int.reduceAdd, Int.reduceSub, Int.reduceMul, Int.reduceNeg, Int.reduceDiv, Int.reduceMod, Int.reduceTDiv, Int.reduceTMod, Int.reducePow, he]
  · intro y e h ⟨h1, h2, h3⟩
    subst h2 h3
    exact hR _ h1

theorem electTree_ans (nd : Int) (rk : List Int) (ls : List (Int × Int)) (rev : Bool) (hnd : 0 ≤ nd ∧ nd < 256) (hrk : ∀ x ∈ rk, 0 ≤ x ∧ x < 256) (hls : ∀ x ∈ ls, (0 ≤ x.1 ∧ x.1 < 256) ∧ 0 ≤ x.2 ∧ x.2 < 256) (hlr : rk.length < 9223372036854775808) (hll : ls.length < 9223372036854775808) :
    ans Try.prog pol 6 [.agg [U8 nd, .sl false 1 (rk.map U8), .sl false 2 (ls.map encU), B rev]] = some (B true) := by
  have c1 := spread_ans nd rk ls rev hnd hrk hls hlr hll
  have hok := draft_ok (ls := ls) (rev := rev) hnd.1 hrk
  generalize dMs rev rk (1 + nd % 12).toNat = ms at c1 hok
  generalize dLs (1 + nd % 12) ls = lk at c1 hok
  obtain ⟨hl1, hl2⟩ := okS_len hok
  have hn := net_of hok
  have c2 := Elect_ok ms lk hok
  have hf : ∀ i, i < ms.length → Fin' ms lk i (vAt (roundsL ms lk 12 (ownL ms)) i) := fun i hi => elect_fin hn hi
  have hv : (roundsL ms lk 12 (ownL ms)).length = ms.length := rounds_len (by simp [ownL]) 12
  generalize roundsL ms lk 12 (ownL ms) = v at c2 hf hv
  have e0 : decide (((v.length : Nat) : Int) = (ms.length : Nat)) = true := decide_eq_true (by omega)
  have hvi : ∀ i, i < ms.length → v[i]? = some (vAt v i) := fun i hi => by simp [vAt, hv, hi]
  refine ans_go 100 1 il6_eq (Nat.le_of_ble_eq_true rfl) ?_
  (simp only [il6c, go_sem, reduceIte, Nat.reduceEqDiff, Nat.reduceAdd, Int.reduceEq, Nat.reduceLeDiff, Nat.reduceLT, Nat.reduceBEq, Nat.reduceMul, Nat.reduceSub, Int.reduceToNat, Int.reduceLE, Int.reduceLT, Int.reduceAdd, Int.reduceSub, Int.reduceMul, Int.reduceNeg, Int.reduceDiv, Int.reduceMod, Int.reduceTDiv, Int.reduceTMod, Int.reducePow, works_ans, c1, c2, e0] <;> (repeat' ((first | with_reducible refine brG_intro (fun hc => ?_) (fun hc => ?_) | with_reducible refine brC_intro (fun hc => ?_) (fun hc => ?_) | ((with_reducible refine c_opsD ?_); have hc := @List.length_nil Nat) | ((with_reducible refine c_opsT ?_); have hc := @List.length_nil Nat) | ((with_reducible refine and_crit ?_ ?_); rfl; have hc := @List.length_nil Nat) | ((with_reducible refine crit_done ?_); rfl) | ((with_reducible refine mkC_go (fun _ => ?_)); have hc := @List.length_nil Nat) | ((with_reducible refine mkL_go (fun _ => ?_)); have hc := @List.length_nil Nat)) <;> (try simp only [Bool.not_eq_true', Bool.not_eq_false', Bool.not_true, Bool.not_false] at hc) <;> (try simp only [hc, go_sem, reduceIte, Nat.reduceEqDiff, Nat.reduceAdd, Int.reduceEq, Nat.reduceLeDiff, Nat.reduceLT, Nat.reduceBEq, Nat.reduceMul, Nat.reduceSub, Int.reduceToNat, Int.reduceLE, Int.reduceLT, Int.reduceAdd, Int.reduceSub, Int.reduceMul, Int.reduceNeg, Int.reduceDiv, Int.reduceMod, Int.reduceTDiv, Int.reduceTMod, Int.reducePow, works_ans, c1, c2, e0]))))
  refine loop_range v encV (step := fun i x (_ : Unit) => Ctl.go ()) (fin := id)
    (St := fun i _ e h => (e 3 = .ref 0 1 0 0 ∧ e 4 = .t (.sl true 9 (v.map encV)) ∧ e 39 = .t (.sl true 9 (v.map encV)) ∧ e 40 = .t (I' (v.length : Nat)) ∧ e 41 = .t (I' (i : Nat))) ∧ h = [spH ms lk])
    (Ex := fun _ y e h => (e 3 = .ref 0 1 0 0 ∧ e 4 = .t (.sl true 9 (v.map encV))) ∧ y = .exit 0 ∧ h = [spH ms lk]) (s := ()) (by omega) ?_ ?_ (by omega) ?_ ?_
  · intro i x _ e h Y R hm hi hx hget hlt hw ⟨hs, hh⟩ hk
    subst hh
    simp only [ctlK_go] at hk
    have him : i < ms.length := by omega
    have hxv : x = vAt v i := by rw [hvi i him] at hx; exact (Option.some.inj hx).symm
    obtain ⟨r, d, ht, hd, hxm, hxs, _⟩ := hf i him
    rw [← hxv] at hxm hxs
    have k1 := OwnV_ok ms lk r hok ht.1
    have k2 := OwnV_ok ms lk i hok him
    have htr : Top ms lk r r := top_of_reach ht ht.2.1.symm
    have hgr : (v.map encV)[r]? = some (encV (ownV ms r)) := by rw [List.getElem?_map, hvi r ht.1, at_root hn hf htr]; rfl
    have k3 := CompareV_ans (ownV ms i) ⟨msAt ms r, 0, i, -1⟩
    have hc : ¬ cmpV (ownV ms i) ⟨msAt ms r, 0, i, -1⟩ < 0 := by
      have := ht.2.2 i him (Reach.refl i)
      have h2 : cmpV ⟨msAt ms r, 0, i, -1⟩ (ownV ms i) ≤ 0 := by
        rw [cmpV_le]
        by_cases hz : cmpM (msAt ms r) (msAt ms i) = 0
        · right; refine ⟨cmpM_zero.1 hz, ?_⟩; simp [ownV]
        · left; simp only [ownV]; omega
      rw [cmpV_neg] at h2; omega
    have d5 : decide (cmpV ⟨msAt ms i, 0, i, -1⟩ ⟨msAt ms r, 0, i, -1⟩ < 0) = false := decide_eq_false hc
    obtain ⟨xm, xs, xn, xl⟩ := x
    simp only at hxm hxs
    subst hxm hxs
    (simp only [il6l1_go, il6l1b, go_sem, reduceIte, Nat.reduceEqDiff, Nat.reduceAdd, Int.reduceEq, Nat.reduceLeDiff, Nat.reduceLT, Nat.reduceBEq, Nat.reduceMul, Nat.reduceSub, Int.reduceToNat, Int.reduceLE, Int.reduceLT, Int.reduceAdd, Int.reduceSub, Int.reduceMul, Int.reduceNeg, Int.reduceDiv, Int.reduceMod, Int.reduceTDiv, Int.reduceTMod, Int.reducePow, hs, hget, hlt, encV_cells] <;> (repeat' ((first | with_reducible refine brG_intro (fun hc => ?_) (fun hc => ?_) | with_reducible refine brC_intro (fun hc => ?_) (fun hc => ?_) | ((with_reducible refine c_opsD ?_); have hc := @List.length_nil Nat) | ((with_reducible refine c_opsT ?_); have hc := @List.length_nil Nat) | ((with_reducible refine and_crit ?_ ?_); rfl; have hc := @List.length_nil Nat) | ((with_reducible refine crit_done ?_); rfl) | ((with_reducible refine mkC_go (fun _ => ?_)); have hc := @List.length_nil Nat) | ((with_reducible refine mkL_go (fun _ => ?_)); have hc := @List.length_nil Nat)) <;> (try simp only [Bool.not_eq_true', Bool.not_eq_false', Bool.not_true, Bool.not_false] at hc) <;> (try simp only [hc, go_sem, reduceIte, Nat.reduceEqDiff, Nat.reduceAdd, Int.reduceEq, Nat.reduceLeDiff, Nat.reduceLT, Nat.reduceBEq, Nat.reduceMul, Nat.reduceSub, Int.reduceToNat, Int.reduceLE, Int.reduceLT, Int.reduceAdd, Int.reduceSub, Int.reduceMul, Int.reduceNeg, Int.reduceDiv, Int.reduceMod, Int.reduceTDiv, Int.reduceTMod, Int.reducePow, hs, hget, hlt, encV_cells]))))
    refine tree_l0 ms lk v hn hl2 hv hf i him r d ht hd ⟨msAt ms r, d, xn, xl⟩ rfl _ _ _ _ (by simp only [go_sem, reduceIte, Nat.reduceEqDiff, Nat.reduceAdd, Int.reduceEq, Nat.reduceLeDiff, Nat.reduceLT, Nat.reduceBEq, Nat.reduceMul, Nat.reduceSub, Int.reduceToNat, Int.reduceLE, Int.reduceLT, Int.reduceAdd, Int.reduceSub, Int.reduceMul, Int.reduceNeg, Int.reduceDiv, Int.reduceMod, Int.reduceTDiv, Int.reduceTMod, Int.reducePow, hs]) ?_
    intro e he
    simp only [ownV] at k1 k2 k3 hgr
    (simp only [il6l1_go, il6l1b, go_sem, reduceIte, Nat.reduceEqDiff, Nat.reduceAdd, Int.reduceEq, Nat.reduceLeDiff, Nat.reduceLT, Nat.reduceBEq, Nat.reduceMul, Nat.reduceSub, Int.reduceToNat, Int.reduceLE, Int.reduceLT, Int.reduceAdd, Int.reduceSub, Int.reduceMul, Int.reduceNeg, Int.reduceDiv, Int.reduceMod, Int.reduceTDiv, Int.reduceTMod, Int.reducePow, he, k1, k2, k3, hgr, encV_cells, d5, hw] <;> (repeat' ((first | with_reducible refine brG_intro (fun hc => ?_) (fun hc => ?_) | with_reducible refine brC_intro (fun hc => ?_) (fun hc => ?_) | ((with_reducible refine c_opsD ?_); have hc := @List.length_nil Nat) | ((with_reducible refine c_opsT ?_); have hc := @List.length_nil Nat) | ((with_reducible refine and_crit ?_ ?_); rfl; have hc := @List.length_nil Nat) | ((with_reducible refine crit_done ?_); rfl) | ((with_reducible refine mkC_go (fun _ => ?_)); have hc := @List.length_nil Nat) | ((with_reducible refine mkL_go (fun _ => ?_)); have hc := @List.length_nil Nat)) <;> (try simp only [Bool.not_eq_true', Bool.not_eq_false', Bool.not_true, Bool.not_false] at hc) <;> (try simp only [hc, go_sem, reduceIte, Nat.reduceEqDiff, Nat.reduceAdd, Int.reduceEq, Nat.reduceLeDiff, Nat.reduceLT, Nat.reduceBEq, Nat.reduceMul, Nat.reduceSub, Int.reduceToNat, Int.reduceLE, Int.reduceLT, Int.reduceAdd, Int.reduceSub, Int.reduceMul, Int.reduceNeg, Int.reduceDiv, Int.reduceMod, Int.reduceTDiv, Int.reduceTMod, Int.reducePow, he, k1, k2, k3, hgr, encV_cells, d5, hw]))))
    all_goals (refine hk _ _ ⟨?_, rfl⟩; simp only [go_sem, reduceIte, Nat.reduceEqDiff, Nat.reduceAdd, Int.reduceEq, Nat.reduceLeDiff, Nat.reduceLT, Nat.reduceBEq, Nat.reduceMul, Nat.reduceSub, Int.reduceToNat, Int.reduceLE, Int.reduceLT, Int.reduceAdd, Int.reduceSub, Int.reduceMul, Int.reduceNeg, Int.reduceDiv, Int.reduceMod, Int.reduceTDiv, Int.reduceTMod, Int.reducePow, he, hw])
  · intro _ e h Y R hlt ⟨hs, hh⟩ hk
    subst hh
    (simp only [il6l1_go, il6l1b, go_sem, reduceIte, Nat.reduceEqDiff, Nat.reduceAdd, Int.reduceEq, Nat.reduceLeDiff, Nat.reduceLT, Nat.reduceBEq, Nat.reduceMul, Nat.reduceSub, Int.reduceToNat, Int.reduceLE, Int.reduceLT, Int.reduceAdd, Int.reduceSub, Int.reduceMul, Int.reduceNeg, Int.reduceDiv, Int.reduceMod, Int.reduceTDiv, Int.reduceTMod, Int.reducePow, hs, hlt] <;> (repeat' ((first | with_reducible refine brG_intro (fun hc => ?_) (fun hc => ?_) | with_reducible refine brC_intro (fun hc => ?_) (fun hc => ?_) | ((with_reducible refine c_opsD ?_); have hc := @List.length_nil Nat) | ((with_reducible refine c_opsT ?_); have hc := @List.length_nil Nat) | ((with_reducible refine and_crit ?_ ?_); rfl; have hc := @List.length_nil Nat) | ((with_reducible refine crit_done ?_); rfl) | ((with_reducible refine mkC_go (fun _ => ?_)); have hc := @List.length_nil Nat) | ((with_reducible refine mkL_go (fun _ => ?_)); have hc := @List.length_nil Nat)) <;> (try simp only [Bool.not_eq_true', Bool.not_eq_false', Bool.not_true, Bool.not_false] at hc) <;> (try simp only [hc, go_sem, reduceIte, Nat.reduceEqDiff, Nat.reduceAdd, Int.reduceEq, Nat.reduceLeDiff, Nat.reduceLT, Nat.reduceBEq, Nat.reduceMul, Nat.reduceSub, Int.reduceToNat, Int.reduceLE, Int.reduceLT, Int.reduceAdd, Int.reduceSub, Int.reduceMul, Int.reduceNeg, Int.reduceDiv, Int.reduceMod, Int.reduceTDiv, Int.reduceTMod, Int.reducePow, hs, hlt]))))
    all_goals (refine hk _ _ _ ⟨?_, rfl, rfl⟩; simp only [go_sem, reduceIte, Nat.reduceEqDiff, Nat.reduceAdd, Int.reduceEq, Nat.reduceLeDiff, Nat.reduceLT, Nat.reduceBEq, Nat.reduceMul, Nat.reduceSub, Int.reduceToNat, Int.reduceLE, Int.reduceLT, Int.reduceAdd, Int.reduceSub, Int.reduceMul, Int.reduceNeg, Int.reduceDiv, Int.reduceMod, Int.reduceTDiv, Int.reduceTMod, Int.reducePow, hs])
  · refine ⟨?_, rfl⟩
    simp only [go_sem, reduceIte, Nat.reduceEqDiff, Nat.reduceAdd, Int.reduceEq, Nat.reduceLeDiff, Nat.reduceLT, Nat.reduceBEq, Nat.reduceMul, Nat.reduceSub, Int.reduceToNat, Int.reduceLE, Int.reduceLT, Int.reduceAdd, Int.reduceSub, Int.reduceMul, Int.reduceNeg, Int.reduceDiv, Int.reduceMod, Int.reduceTDiv, Int.reduceTMod, Int.reducePow]
  · intro y e h ⟨h1, h2, h3⟩
    subst h2 h3
    (simp only [il6c, go_sem, reduceIte, Nat.reduceEqDiff, Nat.reduceAdd, Int.reduceEq, Nat.reduceLeDiff, Nat.reduceLT, Nat.reduceBEq, Nat.reduceMul, Nat.reduceSub, Int.reduceToNat, Int.reduceLE, Int.reduceLT, Int.reduceAdd, Int.reduceSub, Int.reduceMul, Int.reduceNeg, Int.reduceDiv, Int.reduceMod, Int.reduceTDiv, Int.reduceTMod, Int.reducePow, h1] <;> (repeat' ((first | with_reducible refine brG_intro (fun hc => ?_) (fun hc => ?_) | with_reducible refine brC_intro (fun hc => ?_) (fun hc => ?_) | ((with_reducible refine c_opsD ?_); have hc := @List.length_nil Nat) | ((with_reducible refine c_opsT ?_); have hc := @List.length_nil Nat) | ((with_reducible refine and_crit ?_ ?_); rfl; have hc := @List.length_nil Nat) | ((with_reducible refine crit_done ?_); rfl) | ((with_reducible refine mkC_go (fun _ => ?_)); have hc := @List.length_nil Nat) | ((with_reducible refine mkL_go (fun _ => ?_)); have hc := @List.length_nil Nat)) <;> (try simp only [Bool.not_eq_true', Bool.not_eq_false', Bool.not_true, Bool.not_false] at hc) <;> (try simp only [hc, go_sem, reduceIte, Nat.reduceEqDiff, Nat.reduceAdd, Int.reduceEq, Nat.reduceLeDiff, Nat.reduceLT, Nat.reduceBEq, Nat.reduceMul, Nat.reduceSub, Int.reduceToNat, Int.reduceLE, Int.reduceLT, Int.reduceAdd, Int.reduceSub, Int.reduceMul, Int.reduceNeg, Int.reduceDiv, Int.reduceMod, Int.reduceTDiv, Int.reduceTMod, Int.reducePow, h1]))))
    refine loop_range lk encLk (step := fun i x (_ : Unit) => Ctl.go ()) (fin := id)
      (St := fun i _ e h => (e 4 = .t (.sl true 9 (v.map encV)) ∧ e 159 = .t (.sl false 2 (lk.map encLk)) ∧ e 160 = .t (I' (lk.length : Nat)) ∧ e 161 = .t (I' (i : Nat))) ∧ h = [spH ms lk])
      (Ex := fun _ y e h => y = .exit 4) (s := ()) (by omega) ?_ ?_ (by omega) ?_ ?_
    · intro k l _ e h Y R hm hi hx hget hlt hw ⟨hs, hh⟩ hk
      subst hh
      simp only [ctlK_go] at hk
      obtain ⟨a, b, rfl, ha, hb, hab⟩ := hn.lks k l hx
      have hadj : Adj lk k a b := .inl hx
      obtain ⟨r, d, ht, hd, hm1, hs1, _⟩ := hf a ha
      obtain ⟨q, d', ht', hd', hm2, hs2, _⟩ := hf b hb
      have htb : Top ms lk r b := top_of_reach ht ⟨1, ⟨a, k, hadj, rfl⟩⟩
      obtain rfl := top_uniq hn htb ht'
      have g1 := hd.2 (d' + 1) ⟨b, k, hadj.symm, hd'.1⟩
      have g2 := hd'.2 (d + 1) ⟨a, k, hadj, hd.1⟩
      have hga : (v.map encV)[a]? = some (encV (vAt v a)) := by rw [List.getElem?_map, hvi a ha]; rfl
      have hgb : (v.map encV)[b]? = some (encV (vAt v b)) := by rw [List.getElem?_map, hvi b hb]; rfl
      have h12 := Dist.lt hn hd ht.1
      have h12' := Dist.lt hn hd' ht'.1
      generalize vAt v a = x at *
      generalize vAt v b = y at *
      obtain ⟨xm, xs, xn, xl⟩ := x
      obtain ⟨ym, ys, yn, yl⟩ := y
      simp only at hm1 hs1 hm2 hs2
      subst hm1 hs1 hm2 hs2
      have w1 : IntKind.i64.wrap ((d : Int) + 1) = (d : Int) + 1 := wrap_i64 (by omega) (by omega)
      have w2 : IntKind.i64.wrap ((d' : Int) + 1) = (d' : Int) + 1 := wrap_i64 (by omega) (by omega)
      have d1 : decide ((d' : Int) + 1 < d) = false := decide_eq_false (by omega)
      have d2 : decide ((d : Int) + 1 < d') = false := decide_eq_false (by omega)
      generalize msAt ms r = M at *
      (simp only [il6l2_go, il6l2b, go_sem, reduceIte, Nat.reduceEqDiff, Nat.reduceAdd, Int.reduceEq, Nat.reduceLeDiff, Nat.reduceLT, Nat.reduceBEq, Nat.reduceMul, Nat.reduceSub, Int.reduceToNat, Int.reduceLE, Int.reduceLT, Int.reduceAdd, Int.reduceSub, Int.reduceMul, Int.reduceNeg, Int.reduceDiv, Int.reduceMod, Int.reduceTDiv, Int.reduceTMod, Int.reducePow, hs, hget, hlt, encLk_cells, hga, hgb, encV_cells, w1, w2, d1, d2, hw] <;> (repeat' ((first | with_reducible refine brG_intro (fun hc => ?_) (fun hc => ?_) | with_reducible refine brC_intro (fun hc => ?_) (fun hc => ?_) | ((with_reducible refine c_opsD ?_); have hc := @List.length_nil Nat) | ((with_reducible refine c_opsT ?_); have hc := @List.length_nil Nat) | ((with_reducible refine and_crit ?_ ?_); rfl; have hc := @List.length_nil Nat) | ((with_reducible refine crit_done ?_); rfl) | ((with_reducible refine mkC_go (fun _ => ?_)); have hc := @List.length_nil Nat) | ((with_reducible refine mkL_go (fun _ => ?_)); have hc := @List.length_nil Nat)) <;> (try simp only [Bool.not_eq_true', Bool.not_eq_false', Bool.not_true, Bool.not_false] at hc) <;> (try simp only [hc, go_sem, reduceIte, Nat.reduceEqDiff, Nat.reduceAdd, Int.reduceEq, Nat.reduceLeDiff, Nat.reduceLT, Nat.reduceBEq, Nat.reduceMul, Nat.reduceSub, Int.reduceToNat, Int.reduceLE, Int.reduceLT, Int.reduceAdd, Int.reduceSub, Int.reduceMul, Int.reduceNeg, Int.reduceDiv, Int.reduceMod, Int.reduceTDiv, Int.reduceTMod, Int.reducePow, hs, hget, hlt, encLk_cells, hga, hgb, encV_cells, w1, w2, d1, d2, hw]))))
      all_goals (refine hk _ _ ⟨?_, rfl⟩; simp only [go_sem, reduceIte, Nat.reduceEqDiff, Nat.reduceAdd, Int.reduceEq, Nat.reduceLeDiff, Nat.reduceLT, Nat.reduceBEq, Nat.reduceMul, Nat.reduceSub, Int.reduceToNat, Int.reduceLE, Int.reduceLT, Int.reduceAdd, Int.reduceSub, Int.reduceMul, Int.reduceNeg, Int.reduceDiv, Int.reduceMod, Int.reduceTDiv, Int.reduceTMod, Int.reducePow, hs, hw])
    · intro _ e h Y R hlt ⟨hs, hh⟩ hk
      subst hh
      (simp only [il6l2_go, il6l2b, go_sem, reduceIte, Nat.reduceEqDiff, Nat.reduceAdd, Int.reduceEq, Nat.reduceLeDiff, Nat.reduceLT, Nat.reduceBEq, Nat.reduceMul, Nat.reduceSub, Int.reduceToNat, Int.reduceLE, Int.reduceLT, Int.reduceAdd, Int.reduceSub, Int.reduceMul, Int.reduceNeg, Int.reduceDiv, Int.reduceMod, Int.reduceTDiv, Int.reduceTMod, Int.reducePow, hs, hlt] <;> (repeat' ((first | with_reducible refine brG_intro (fun hc => ?_) (fun hc => ?_) | with_reducible refine brC_intro (fun hc => ?_) (fun hc => ?_) | ((with_reducible refine c_opsD ?_); have hc := @List.length_nil Nat) | ((with_reducible refine c_opsT ?_); have hc := @List.length_nil Nat) | ((with_reducible refine and_crit ?_ ?_); rfl; have hc := @List.length_nil Nat) | ((with_reducible refine crit_done ?_); rfl) | ((with_reducible refine mkC_go (fun _ => ?_)); have hc := @List.length_nil Nat) | ((with_reducible refine mkL_go (fun _ => ?_)); have hc := @List.length_nil Nat)) <;> (try simp only [Bool.not_eq_true', Bool.not_eq_false', Bool.not_true, Bool.not_false] at hc) <;> (try simp only [hc, go_sem, reduceIte, Nat.reduceEqDiff, Nat.reduceAdd, Int.reduceEq, Nat.reduceLeDiff, Nat.reduceLT, Nat.reduceBEq, Nat.reduceMul, Nat.reduceSub, Int.reduceToNat, Int.reduceLE, Int.reduceLT, Int.reduceAdd, Int.reduceSub, Int.reduceMul, Int.reduceNeg, Int.reduceDiv, Int.reduceMod, Int.reduceTDiv, Int.reduceTMod, Int.reducePow, hs, hlt]))))
      all_goals exact hk _ _ _ rfl
    · refine ⟨?_, rfl⟩
      simp only [go_sem, reduceIte, Nat.reduceEqDiff, Nat.reduceAdd, Int.reduceEq, Nat.reduceLeDiff, Nat.reduceLT, Nat.reduceBEq, Nat.reduceMul, Nat.reduceSub, Int.reduceToNat, Int.reduceLE, Int.reduceLT, Int.reduceAdd, Int.reduceSub, Int.reduceMul, Int.reduceNeg, Int.reduceDiv, Int.reduceMod, Int.reduceTDiv, Int.reduceTMod, Int.reducePow, h1]
    · intro y e h h2
      subst h2
      (simp only [il6c, go_sem, reduceIte, Nat.reduceEqDiff, Nat.reduceAdd, Int.reduceEq, Nat.reduceLeDiff, Nat.reduceLT, Nat.reduceBEq, Nat.reduceMul, Nat.reduceSub, Int.reduceToNat, Int.reduceLE, Int.reduceLT, Int.reduceAdd, Int.reduceSub, Int.reduceMul, Int.reduceNeg, Int.reduceDiv, Int.reduceMod, Int.reduceTDiv, Int.reduceTMod, Int.reducePow] <;> (repeat' ((first | with_reducible refine brG_intro (fun hc => ?_) (fun hc => ?_) | with_reducible refine brC_intro (fun hc => ?_) (fun hc => ?_) | ((with_reducible refine c_opsD ?_); have hc := @List.length_nil Nat) | ((with_reducible refine c_opsT ?_); have hc := @List.length_nil Nat) | ((with_reducible refine and_crit ?_ ?_); rfl; have hc := @List.length_nil Nat) | ((with_reducible refine crit_done ?_); rfl) | ((with_reducible refine mkC_go (fun _ => ?_)); have hc := @List.length_nil Nat) | ((with_reducible refine mkL_go (fun _ => ?_)); have hc := @List.length_nil Nat)) <;> (try simp only [Bool.not_eq_true', Bool.not_eq_false', Bool.not_true, Bool.not_false] at hc) <;> (try simp only [hc, go_sem, reduceIte, Nat.reduceEqDiff, Nat.reduceAdd, Int.reduceEq, Nat.reduceLeDiff, Nat.reduceLT, Nat.reduceBEq, Nat.reduceMul, Nat.reduceSub, Int.reduceToNat, Int.reduceLE, Int.reduceLT, Int.reduceAdd, Int.reduceSub, Int.reduceMul, Int.reduceNeg, Int.reduceDiv, Int.reduceMod, Int.reduceTDiv, Int.reduceTMod, Int.reducePow]))))

end Go.Proofs.Ytboknhdkadcaeaa
