/- Bridges that have lived. -/
import Derived.Test.YtcpaijajddaidaaSpH
import Derived.Test.YtcpaijajddaidaaWorks19
namespace Go.Proofs.Ytcpaijajddaidaa
open Go Go.Abs
set_option linter.unusedSimpArgs false
set_option linter.unusedVariables false
set_option maxRecDepth 100000
set_option maxHeartbeats 4000000

theorem okB_put {b : Br} (h : okB b = true) {hd : List Hd} (hl : hd.length = b.heard.length) (hx : ∀ x ∈ hd, okH x) : okB (putB b hd) = true := by
  have h0 := okB_len h
  have h1 := h
  rw [okB, Bool.and_eq_true, Bool.and_eq_true] at h1
  have h3 := of_decide_eq_true h1.1.2
  simp only [okL] at h0
  rw [okB, Bool.and_eq_true, Bool.and_eq_true, List.all_eq_true]
  refine ⟨⟨decide_eq_true ?_, decide_eq_true h3⟩, ?_⟩
  · simp only [okL, putB]; omega
  · intro i hi
    simp only [putB, List.mem_range] at hi
    have h2 := okB_at h hi
    simp only [okAt, decide_eq_true_eq] at h2 ⊢
    refine ⟨h2.1, h2.2.1, h2.2.2.1, ?_⟩
    obtain ⟨x, hx'⟩ : ∃ x, hd[i]? = some x := ⟨hd[i]'(by omega), by simp⟩
    simp only [hrd, putB, hx', Option.getD_some]
    exact hx x (List.mem_of_getElem? hx')
theorem okH_tick {h : Hd} (hk : okH h) : okH (tickH h) := by
  unfold tickH
  by_cases q : h.is = false
  · rw [if_pos q]; exact hk
  · have q' : h.is = true := by simpa using q
    rw [if_neg q]
    have h1 := hk.1 q'
    by_cases q2 : 20 < h.g + 1
    · rw [if_pos q2]; exact ⟨(fun h => (by cases h)), fun _ => rfl⟩
    · rw [if_neg q2]
      refine ⟨fun _ => ?_, fun h => ?_⟩
      · simp only [helloP] at h1 ⊢; exact ⟨h1.1, by omega⟩
      · simp only at h; rw [q'] at h; exact (by cases h)
theorem okH_as {h : Hd} (hk : helloP h) : okH (heardAs h) := ⟨fun _ => hk, (fun h => (by cases h))⟩
theorem okH_rcv {o h : Hd} (ho : okH o) (hk : helloP h) : okH (rcvH o h) := by
  unfold rcvH
  split
  · exact okH_as hk
  · exact ho

structure Ev where
  tick : Bool
  port : Int
  h : Hd
abbrev U8 (n : Int) : T := .sc (.int .u8 n)
def encE (e : Ev) : T := .agg [B e.tick, U8 e.port, I e.h.a, I e.h.b, I e.h.c, I e.h.d, I e.h.e, I e.h.f, I e.h.g]
theorem encE_cells (e : Ev) : (encE e).cells = [B e.tick, U8 e.port, I e.h.a, I e.h.b, I e.h.c, I e.h.d, I e.h.e, I e.h.f, I e.h.g] := rfl
def okE (e : Ev) : Prop := 0 ≤ e.port ∧ e.port < 256

/-- What holds of a bridge that has lived. -/
structure Lv (p n : Int) (b : Br) : Prop where
  ok : okB b = true
  p : b.p = p
  n : b.n = n
  ports : b.ports = [1, 4, 6, 11]
  costs : b.costs = [5, 5, 7, 1000]
theorem Lv.heard {p n : Int} {b : Br} (h : Lv p n b) : b.heard.length = 4 := by
  have := okB_len h.ok
  simp only [okL, h.ports] at this
  simpa using this.2.2
theorem Lv.put {p n : Int} {b : Br} (h : Lv p n b) {hd : List Hd} (hl : hd.length = b.heard.length) (hx : ∀ x ∈ hd, okH x) : Lv p n (putB b hd) :=
  ⟨okB_put h.ok hl hx, h.p, h.n, h.ports, h.costs⟩
theorem Lv.rcv {p n : Int} {b : Br} (h : Lv p n b) (i : Nat) {m : Hd} (hm : helloP m) : Lv p n (putB b (b.heard.set i (rcvH (hrd b i) m))) := by
  refine h.put (by simp) fun x hx => ?_
  rcases List.mem_or_eq_of_mem_set hx with hx | rfl
  · exact okB_heard h.ok hx
  · refine okH_rcv ?_ hm
    rw [hrd]
    cases hg : b.heard[i]? with
    | none => exact ⟨(fun h => (by cases h)), fun _ => rfl⟩
    | some y => exact okB_heard h.ok (List.mem_of_getElem? hg)
theorem Lv.tick {p n : Int} {b : Br} (h : Lv p n b) : Lv p n (putB b (b.heard.map tickH)) := by
  refine h.put (by simp) fun x hx => ?_
  simp only [List.mem_map] at hx
  obtain ⟨y, hy, rfl⟩ := hx
  exact okH_tick (okB_heard h.ok hy)
def lvS (b : Br) (e : Ev) : Br := if e.tick = true then putB b (b.heard.map tickH) else if helloP e.h then putB b (b.heard.set (e.port % 4).toNat (rcvH (hrd b (e.port % 4).toNat) e.h)) else b
theorem lvS_ok {p n : Int} {b : Br} (h : Lv p n b) (e : Ev) : Lv p n (lvS b e) := by
  unfold lvS
  split
  · exact h.tick
  · split
    · rename_i g; exact h.rcv _ g
    · exact h
theorem start_ok (p n : Int) : okB (newB p n [1, 4, 6, 11] [5, 5, 7, 1000]) = decide (bidP p n) := by
  have h1 : decide (okL (newB p n [1, 4, 6, 11] [5, 5, 7, 1000])) = true := decide_eq_true (by simp [okL, newB])
  have h2 : (List.range (newB p n [1, 4, 6, 11] [5, 5, 7, 1000]).ports.length).all (okAt (newB p n [1, 4, 6, 11] [5, 5, 7, 1000])) = true := by
    rw [List.all_eq_true]
    intro i hi
    simp only [newB, List.length_cons, List.length_nil, List.mem_range] at hi
    have hz : okH zH := ⟨(fun h => (by cases h)), fun _ => rfl⟩
    have h4 : i = 0 ∨ i = 1 ∨ i = 2 ∨ i = 3 := by omega
    rcases h4 with rfl | rfl | rfl | rfl <;> (rw [okAt, decide_eq_true_eq]; refine ⟨?_, ?_, ?_, ?_⟩ <;> first | exact hz | (simp [newB, prt, cst]))
  rw [okB, h1, h2, Bool.true_and, Bool.and_true]
  rfl

theorem lived_ok (p n : Int) (l : List Ev) (hl : ∀ e ∈ l, okE e) (hll : l.length < 9223372036854775808) (hb : bidP p n) : ∃ b, Lv p n b ∧ ans Try.prog pol 34 [.agg [I p, I n], .sl false 9 (l.map encE)] = some (.tup [brT true true true b, B true]) := by
  have k1 := New_ans true true p n [1, 4, 6, 11] [5, 5, 7, 1000] (by simp)
  rw [if_pos (by rw [start_ok]; exact decide_eq_true hb)] at k1
  have h0 : Lv p n (newB p n [1, 4, 6, 11] [5, 5, 7, 1000]) := ⟨by rw [start_ok]; exact decide_eq_true hb, rfl, rfl, rfl, rfl⟩
  have m1 : (if (20 : Int) < (l.length : Nat) then 20 else ((l.length : Nat) : Int)) = ((min l.length 20 : Nat) : Int) := by split <;> omega
  have h1 : min l.length 20 ≤ l.length := Nat.min_le_left _ _
  have t1 := take_min (enc := encE) l 20
  have hl2 : ∀ e ∈ l.take 20, okE e := fun e he => hl e (List.mem_of_mem_take he)
  have hlen : (l.take 20).length ≤ 20 := by simp; omega
  have hlen2 : min l.length 20 = (l.take 20).length := by simp [Nat.min_comm]
  simp only [List.map_cons, List.map_nil] at k1
  generalize newB p n [1, 4, 6, 11] [5, 5, 7, 1000] = b0 at *
  generalize l.take 20 = L at *
  have hfold : ∀ (L : List Ev) (b : Br), Lv p n b → Lv p n (L.foldl lvS b) := by
    intro L
    induction L with
    | nil => intro b h; exact h
    | cons e L ih => intro b h; exact ih _ (lvS_ok h e)
  refine ⟨L.foldl lvS b0, hfold L b0 h0, ?_⟩
  refine ans_go 100 1 il34_eq (Nat.le_of_ble_eq_true rfl) ?_
  (simp only [il34c, go_sem, reduceIte, Nat.reduceEqDiff, Nat.reduceAdd, Int.reduceEq, Nat.reduceLeDiff, Nat.reduceLT, Nat.reduceBEq, Nat.reduceMul, Nat.reduceSub, Int.reduceToNat, Int.reduceLE, Int.reduceLT, Int.reduceAdd, Int.reduceSub, Int.reduceMul, Int.reduceNeg, Int.reduceDiv, Int.reduceMod, Int.reduceTDiv, Int.reduceTMod, Int.reducePow, k1, m1, h1, t1] <;> (repeat' ((first | with_reducible refine brG_intro (fun hc => ?_) (fun hc => ?_) | with_reducible refine brC_intro (fun hc => ?_) (fun hc => ?_) | ((with_reducible refine c_opsD ?_); have hc := @List.length_nil Nat) | ((with_reducible refine c_opsT ?_); have hc := @List.length_nil Nat) | ((with_reducible refine and_crit ?_ ?_); rfl; have hc := @List.length_nil Nat) | ((with_reducible refine crit_done ?_); rfl) | ((with_reducible refine mkC_go (fun _ => ?_)); have hc := @List.length_nil Nat) | ((with_reducible refine mkL_go (fun _ => ?_)); have hc := @List.length_nil Nat)) <;> (try simp only [Bool.not_eq_true', Bool.not_eq_false', Bool.not_true, Bool.not_false] at hc) <;> (try simp only [hc, go_sem, reduceIte, Nat.reduceEqDiff, Nat.reduceAdd, Int.reduceEq, Nat.reduceLeDiff, Nat.reduceLT, Nat.reduceBEq, Nat.reduceMul, Nat.reduceSub, Int.reduceToNat, Int.reduceLE, Int.reduceLT, Int.reduceAdd, Int.reduceSub, Int.reduceMul, Int.reduceNeg, Int.reduceDiv, Int.reduceMod, Int.reduceTDiv, Int.reduceTMod, Int.reducePow, k1, m1, h1, t1]))))
  refine loop_range L encE (step := fun _ e b => .go (lvS b e)) (fin := id)
    (St := fun i b e h => (e 4 = .ref 0 1 0 0 ∧ e 6 = .ref 1 1 0 0 ∧ e 7 = .t (I 0) ∧ e 23 = .t (.sl false 9 (L.map encE)) ∧ e 24 = .t (I (L.length : Nat)) ∧ e 25 = .t (I (i : Nat))) ∧ Lv p n b ∧ h = [.row 5 [.t zB] 0, .row 5 [.t (brT true true true b)] 1])
    (Ex := fun b x e h => (e 4 = .ref 0 1 0 0 ∧ e 6 = .ref 1 1 0 0 ∧ e 7 = .t (I 0)) ∧ x = .exit 0 ∧ h = [.row 5 [.t zB] 0, .row 5 [.t (brT true true true b)] 1]) (s := b0) (by omega) ?_ ?_ (by omega) ?_ ?_
  · intro i ev b e h Y R hm hi hx hget hlt hw ⟨hs, hlv, hh⟩ hk
    subst hh
    simp only [ctlK_go] at hk
    have hlv2 := lvS_ok hlv ev
    have hev := hl2 ev hm
    simp only [okE] at hev
    have t1 : ev.port.tmod 4 = ev.port % 4 := Int.tmod_eq_emod_of_nonneg hev.1
    have v1 : IntKind.u8.wrap (ev.port % 4) = ev.port % 4 := by rw [wrap_u8]; omega
    have v2 : IntKind.i64.wrap (ev.port % 4) = ev.port % 4 := wrap_i64 (by omega) (by omega)
    obtain ⟨j, hj⟩ := Int.eq_ofNat_of_zero_le (show 0 ≤ ev.port % 4 by omega)
    have hj4 : j < 4 := by omega
    have hjp : j < b.ports.length := by rw [hlv.ports]; exact hj4
    by_cases q : ev.tick = true
    · have r1 := Tick_ok true true true b hlv.ok
      have hst : lvS b ev = putB b (b.heard.map tickH) := by rw [lvS, if_pos q]
      rw [hst] at hk hlv2
      generalize putB b (b.heard.map tickH) = b2 at *
      (simp only [il34l0_go, il34l0b, go_sem, reduceIte, Nat.reduceEqDiff, Nat.reduceAdd, Int.reduceEq, Nat.reduceLeDiff, Nat.reduceLT, Nat.reduceBEq, Nat.reduceMul, Nat.reduceSub, Int.reduceToNat, Int.reduceLE, Int.reduceLT, Int.reduceAdd, Int.reduceSub, Int.reduceMul, Int.reduceNeg, Int.reduceDiv, Int.reduceMod, Int.reduceTDiv, Int.reduceTMod, Int.reducePow, hs, hget, hlt, hw, encE_cells, q, r1] <;> (repeat' ((first | with_reducible refine brG_intro (fun hc => ?_) (fun hc => ?_) | with_reducible refine brC_intro (fun hc => ?_) (fun hc => ?_) | ((with_reducible refine c_opsD ?_); have hc := @List.length_nil Nat) | ((with_reducible refine c_opsT ?_); have hc := @List.length_nil Nat) | ((with_reducible refine and_crit ?_ ?_); rfl; have hc := @List.length_nil Nat) | ((with_reducible refine crit_done ?_); rfl) | ((with_reducible refine mkC_go (fun _ => ?_)); have hc := @List.length_nil Nat) | ((with_reducible refine mkL_go (fun _ => ?_)); have hc := @List.length_nil Nat)) <;> (try simp only [Bool.not_eq_true', Bool.not_eq_false', Bool.not_true, Bool.not_false] at hc) <;> (try simp only [hc, go_sem, reduceIte, Nat.reduceEqDiff, Nat.reduceAdd, Int.reduceEq, Nat.reduceLeDiff, Nat.reduceLT, Nat.reduceBEq, Nat.reduceMul, Nat.reduceSub, Int.reduceToNat, Int.reduceLE, Int.reduceLT, Int.reduceAdd, Int.reduceSub, Int.reduceMul, Int.reduceNeg, Int.reduceDiv, Int.reduceMod, Int.reduceTDiv, Int.reduceTMod, Int.reducePow, hs, hget, hlt, hw, encE_cells, q, r1]))))
      all_goals (refine hk _ _ ⟨?_, hlv2, rfl⟩; simp only [go_sem, reduceIte, Nat.reduceEqDiff, Nat.reduceAdd, Int.reduceEq, Nat.reduceLeDiff, Nat.reduceLT, Nat.reduceBEq, Nat.reduceMul, Nat.reduceSub, Int.reduceToNat, Int.reduceLE, Int.reduceLT, Int.reduceAdd, Int.reduceSub, Int.reduceMul, Int.reduceNeg, Int.reduceDiv, Int.reduceMod, Int.reduceTDiv, Int.reduceTMod, Int.reducePow, hs, hw])
    · have q' : ev.tick = false := by simpa using q
      by_cases g : helloP ev.h
      · have r1 := Receive_ok true true true b j ev.h hlv.ok hjp g
        have hst : lvS b ev = putB b (b.heard.set j (rcvH (hrd b j) ev.h)) := by rw [lvS, if_neg q, if_pos g, hj, Int.toNat_natCast]
        rw [hst] at hk hlv2
        rw [hj] at t1 v1 v2
        generalize putB b (b.heard.set j (rcvH (hrd b j) ev.h)) = b2 at *
        (simp only [il34l0_go, il34l0b, go_sem, reduceIte, Nat.reduceEqDiff, Nat.reduceAdd, Int.reduceEq, Nat.reduceLeDiff, Nat.reduceLT, Nat.reduceBEq, Nat.reduceMul, Nat.reduceSub, Int.reduceToNat, Int.reduceLE, Int.reduceLT, Int.reduceAdd, Int.reduceSub, Int.reduceMul, Int.reduceNeg, Int.reduceDiv, Int.reduceMod, Int.reduceTDiv, Int.reduceTMod, Int.reducePow, hs, hget, hlt, hw, encE_cells, q', t1, v1, v2, r1] <;> (repeat' ((first | with_reducible refine brG_intro (fun hc => ?_) (fun hc => ?_) | with_reducible refine brC_intro (fun hc => ?_) (fun hc => ?_) | ((with_reducible refine c_opsD ?_); have hc := @List.length_nil Nat) | ((with_reducible refine c_opsT ?_); have hc := @List.length_nil Nat) | ((with_reducible refine and_crit ?_ ?_); rfl; have hc := @List.length_nil Nat) | ((with_reducible refine crit_done ?_); rfl) | ((with_reducible refine mkC_go (fun _ => ?_)); have hc := @List.length_nil Nat) | ((with_reducible refine mkL_go (fun _ => ?_)); have hc := @List.length_nil Nat)) <;> (try simp only [Bool.not_eq_true', Bool.not_eq_false', Bool.not_true, Bool.not_false] at hc) <;> (try simp only [hc, go_sem, reduceIte, Nat.reduceEqDiff, Nat.reduceAdd, Int.reduceEq, Nat.reduceLeDiff, Nat.reduceLT, Nat.reduceBEq, Nat.reduceMul, Nat.reduceSub, Int.reduceToNat, Int.reduceLE, Int.reduceLT, Int.reduceAdd, Int.reduceSub, Int.reduceMul, Int.reduceNeg, Int.reduceDiv, Int.reduceMod, Int.reduceTDiv, Int.reduceTMod, Int.reducePow, hs, hget, hlt, hw, encE_cells, q', t1, v1, v2, r1]))))
        all_goals (refine hk _ _ ⟨?_, hlv2, rfl⟩; simp only [go_sem, reduceIte, Nat.reduceEqDiff, Nat.reduceAdd, Int.reduceEq, Nat.reduceLeDiff, Nat.reduceLT, Nat.reduceBEq, Nat.reduceMul, Nat.reduceSub, Int.reduceToNat, Int.reduceLE, Int.reduceLT, Int.reduceAdd, Int.reduceSub, Int.reduceMul, Int.reduceNeg, Int.reduceDiv, Int.reduceMod, Int.reduceTDiv, Int.reduceTMod, Int.reducePow, hs, hw])
      · have r1 := Receive_rank true true true b j ev.h hlv.ok hjp g
        have hst : lvS b ev = b := by rw [lvS, if_neg q, if_neg g]
        rw [hst] at hk
        rw [hj] at t1 v1 v2
        (simp only [il34l0_go, il34l0b, go_sem, reduceIte, Nat.reduceEqDiff, Nat.reduceAdd, Int.reduceEq, Nat.reduceLeDiff, Nat.reduceLT, Nat.reduceBEq, Nat.reduceMul, Nat.reduceSub, Int.reduceToNat, Int.reduceLE, Int.reduceLT, Int.reduceAdd, Int.reduceSub, Int.reduceMul, Int.reduceNeg, Int.reduceDiv, Int.reduceMod, Int.reduceTDiv, Int.reduceTMod, Int.reducePow, hs, hget, hlt, hw, encE_cells, q', t1, v1, v2, r1] <;> (repeat' ((first | with_reducible refine brG_intro (fun hc => ?_) (fun hc => ?_) | with_reducible refine brC_intro (fun hc => ?_) (fun hc => ?_) | ((with_reducible refine c_opsD ?_); have hc := @List.length_nil Nat) | ((with_reducible refine c_opsT ?_); have hc := @List.length_nil Nat) | ((with_reducible refine and_crit ?_ ?_); rfl; have hc := @List.length_nil Nat) | ((with_reducible refine crit_done ?_); rfl) | ((with_reducible refine mkC_go (fun _ => ?_)); have hc := @List.length_nil Nat) | ((with_reducible refine mkL_go (fun _ => ?_)); have hc := @List.length_nil Nat)) <;> (try simp only [Bool.not_eq_true', Bool.not_eq_false', Bool.not_true, Bool.not_false] at hc) <;> (try simp only [hc, go_sem, reduceIte, Nat.reduceEqDiff, Nat.reduceAdd, Int.reduceEq, Nat.reduceLeDiff, Nat.reduceLT, Nat.reduceBEq, Nat.reduceMul, Nat.reduceSub, Int.reduceToNat, Int.reduceLE, Int.reduceLT, Int.reduceAdd, Int.reduceSub, Int.reduceMul, Int.reduceNeg, Int.reduceDiv, Int.reduceMod, Int.reduceTDiv, Int.reduceTMod, Int.reducePow, hs, hget, hlt, hw, encE_cells, q', t1, v1, v2, r1]))))
        all_goals (refine hk _ _ ⟨?_, hlv, rfl⟩; simp only [go_sem, reduceIte, Nat.reduceEqDiff, Nat.reduceAdd, Int.reduceEq, Nat.reduceLeDiff, Nat.reduceLT, Nat.reduceBEq, Nat.reduceMul, Nat.reduceSub, Int.reduceToNat, Int.reduceLE, Int.reduceLT, Int.reduceAdd, Int.reduceSub, Int.reduceMul, Int.reduceNeg, Int.reduceDiv, Int.reduceMod, Int.reduceTDiv, Int.reduceTMod, Int.reducePow, hs, hw])
  · intro b e h Y R hlt ⟨hs, hlv, hh⟩ hk
    subst hh
    (simp only [il34l0_go, il34l0b, go_sem, reduceIte, Nat.reduceEqDiff, Nat.reduceAdd, Int.reduceEq, Nat.reduceLeDiff, Nat.reduceLT, Nat.reduceBEq, Nat.reduceMul, Nat.reduceSub, Int.reduceToNat, Int.reduceLE, Int.reduceLT, Int.reduceAdd, Int.reduceSub, Int.reduceMul, Int.reduceNeg, Int.reduceDiv, Int.reduceMod, Int.reduceTDiv, Int.reduceTMod, Int.reducePow, hs, hlt] <;> (repeat' ((first | with_reducible refine brG_intro (fun hc => ?_) (fun hc => ?_) | with_reducible refine brC_intro (fun hc => ?_) (fun hc => ?_) | ((with_reducible refine c_opsD ?_); have hc := @List.length_nil Nat) | ((with_reducible refine c_opsT ?_); have hc := @List.length_nil Nat) | ((with_reducible refine and_crit ?_ ?_); rfl; have hc := @List.length_nil Nat) | ((with_reducible refine crit_done ?_); rfl) | ((with_reducible refine mkC_go (fun _ => ?_)); have hc := @List.length_nil Nat) | ((with_reducible refine mkL_go (fun _ => ?_)); have hc := @List.length_nil Nat)) <;> (try simp only [Bool.not_eq_true', Bool.not_eq_false', Bool.not_true, Bool.not_false] at hc) <;> (try simp only [hc, go_sem, reduceIte, Nat.reduceEqDiff, Nat.reduceAdd, Int.reduceEq, Nat.reduceLeDiff, Nat.reduceLT, Nat.reduceBEq, Nat.reduceMul, Nat.reduceSub, Int.reduceToNat, Int.reduceLE, Int.reduceLT, Int.reduceAdd, Int.reduceSub, Int.reduceMul, Int.reduceNeg, Int.reduceDiv, Int.reduceMod, Int.reduceTDiv, Int.reduceTMod, Int.reducePow, hs, hlt]))))
    all_goals (refine hk _ _ _ ⟨?_, rfl, rfl⟩; simp only [go_sem, reduceIte, Nat.reduceEqDiff, Nat.reduceAdd, Int.reduceEq, Nat.reduceLeDiff, Nat.reduceLT, Nat.reduceBEq, Nat.reduceMul, Nat.reduceSub, Int.reduceToNat, Int.reduceLE, Int.reduceLT, Int.reduceAdd, Int.reduceSub, Int.reduceMul, Int.reduceNeg, Int.reduceDiv, Int.reduceMod, Int.reduceTDiv, Int.reduceTMod, Int.reducePow, hs, id])
  · refine ⟨?_, h0, rfl⟩
    simp only [go_sem, reduceIte, Nat.reduceEqDiff, Nat.reduceAdd, Int.reduceEq, Nat.reduceLeDiff, Nat.reduceLT, Nat.reduceBEq, Nat.reduceMul, Nat.reduceSub, Int.reduceToNat, Int.reduceLE, Int.reduceLT, Int.reduceAdd, Int.reduceSub, Int.reduceMul, Int.reduceNeg, Int.reduceDiv, Int.reduceMod, Int.reduceTDiv, Int.reduceTMod, Int.reducePow, hlen2]
  · intro x e h ⟨h1, h2, h3⟩
    rw [foldC_foldl] at h3
    subst h2 h3
    simp only [id]
    generalize L.foldl lvS b0 = b at *
    (simp only [il34c, go_sem, reduceIte, Nat.reduceEqDiff, Nat.reduceAdd, Int.reduceEq, Nat.reduceLeDiff, Nat.reduceLT, Nat.reduceBEq, Nat.reduceMul, Nat.reduceSub, Int.reduceToNat, Int.reduceLE, Int.reduceLT, Int.reduceAdd, Int.reduceSub, Int.reduceMul, Int.reduceNeg, Int.reduceDiv, Int.reduceMod, Int.reduceTDiv, Int.reduceTMod, Int.reducePow, h1] <;> (repeat' ((first | with_reducible refine brG_intro (fun hc => ?_) (fun hc => ?_) | with_reducible refine brC_intro (fun hc => ?_) (fun hc => ?_) | ((with_reducible refine c_opsD ?_); have hc := @List.length_nil Nat) | ((with_reducible refine c_opsT ?_); have hc := @List.length_nil Nat) | ((with_reducible refine and_crit ?_ ?_); rfl; have hc := @List.length_nil Nat) | ((with_reducible refine crit_done ?_); rfl) | ((with_reducible refine mkC_go (fun _ => ?_)); have hc := @List.length_nil Nat) | ((with_reducible refine mkL_go (fun _ => ?_)); have hc := @List.length_nil Nat)) <;> (try simp only [Bool.not_eq_true', Bool.not_eq_false', Bool.not_true, Bool.not_false] at hc) <;> (try simp only [hc, go_sem, reduceIte, Nat.reduceEqDiff, Nat.reduceAdd, Int.reduceEq, Nat.reduceLeDiff, Nat.reduceLT, Nat.reduceBEq, Nat.reduceMul, Nat.reduceSub, Int.reduceToNat, Int.reduceLE, Int.reduceLT, Int.reduceAdd, Int.reduceSub, Int.reduceMul, Int.reduceNeg, Int.reduceDiv, Int.reduceMod, Int.reduceTDiv, Int.reduceTMod, Int.reducePow, h1]))))

/-! A bridge that could not be made -/
abbrev eB : T := .agg [I 0, I 0, .sl true 1 [], .sl true 1 [], .sl true 8 []]
def lvT (t : Bool) : T := if t then eB else zB
theorem chkT (t : Bool) : ans Try.prog pol 14 [lvT t] = some (I 0) := by cases t <;> exact ans_of_run (n := 10) 6 (by kernel_rfl)
theorem tickT (t : Bool) : ans Try.prog pol 29 [lvT t] = some (.tup [eB, I 0]) := by cases t <;> exact ans_of_run (n := 10) 8 (by kernel_rfl)
theorem rcvT (t : Bool) (i : Nat) (h : Hd) : ans Try.prog pol 26 [lvT t, I (i : Nat), heT h] = some (.tup [zB, I 2]) := by
  have k1 := chkT t
  have d1 : decide ((i : Int) < 0) = false := decide_eq_false (by omega)
  have d2 : decide ((0 : Int) ≤ (i : Int)) = true := decide_eq_true (by omega)
  refine ans_go 1 1 il26_eq (Nat.le_of_ble_eq_true rfl) ?_
  cases t with
  | true =>
    simp only [lvT, if_true] at k1 ⊢
    (simp only [il26c, go_sem, reduceIte, Nat.reduceEqDiff, Nat.reduceAdd, Int.reduceEq, Nat.reduceLeDiff, Nat.reduceLT, Nat.reduceBEq, Nat.reduceMul, Nat.reduceSub, Int.reduceToNat, Int.reduceLE, Int.reduceLT, Int.reduceAdd, Int.reduceSub, Int.reduceMul, Int.reduceNeg, Int.reduceDiv, Int.reduceMod, Int.reduceTDiv, Int.reduceTMod, Int.reducePow, k1, d1, d2] <;> (repeat' ((first | with_reducible refine brG_intro (fun hc => ?_) (fun hc => ?_) | with_reducible refine brC_intro (fun hc => ?_) (fun hc => ?_) | ((with_reducible refine c_opsD ?_); have hc := @List.length_nil Nat) | ((with_reducible refine c_opsT ?_); have hc := @List.length_nil Nat) | ((with_reducible refine and_crit ?_ ?_); rfl; have hc := @List.length_nil Nat) | ((with_reducible refine crit_done ?_); rfl) | ((with_reducible refine mkC_go (fun _ => ?_)); have hc := @List.length_nil Nat) | ((with_reducible refine mkL_go (fun _ => ?_)); have hc := @List.length_nil Nat)) <;> (try simp only [Bool.not_eq_true', Bool.not_eq_false', Bool.not_true, Bool.not_false] at hc) <;> (try simp only [hc, go_sem, reduceIte, Nat.reduceEqDiff, Nat.reduceAdd, Int.reduceEq, Nat.reduceLeDiff, Nat.reduceLT, Nat.reduceBEq, Nat.reduceMul, Nat.reduceSub, Int.reduceToNat, Int.reduceLE, Int.reduceLT, Int.reduceAdd, Int.reduceSub, Int.reduceMul, Int.reduceNeg, Int.reduceDiv, Int.reduceMod, Int.reduceTDiv, Int.reduceTMod, Int.reducePow, k1, d1, d2]))))
  | false =>
    simp only [lvT, Bool.false_eq_true, if_false] at k1 ⊢
    (simp only [il26c, go_sem, reduceIte, Nat.reduceEqDiff, Nat.reduceAdd, Int.reduceEq, Nat.reduceLeDiff, Nat.reduceLT, Nat.reduceBEq, Nat.reduceMul, Nat.reduceSub, Int.reduceToNat, Int.reduceLE, Int.reduceLT, Int.reduceAdd, Int.reduceSub, Int.reduceMul, Int.reduceNeg, Int.reduceDiv, Int.reduceMod, Int.reduceTDiv, Int.reduceTMod, Int.reducePow, k1, d1, d2] <;> (repeat' ((first | with_reducible refine brG_intro (fun hc => ?_) (fun hc => ?_) | with_reducible refine brC_intro (fun hc => ?_) (fun hc => ?_) | ((with_reducible refine c_opsD ?_); have hc := @List.length_nil Nat) | ((with_reducible refine c_opsT ?_); have hc := @List.length_nil Nat) | ((with_reducible refine and_crit ?_ ?_); rfl; have hc := @List.length_nil Nat) | ((with_reducible refine crit_done ?_); rfl) | ((with_reducible refine mkC_go (fun _ => ?_)); have hc := @List.length_nil Nat) | ((with_reducible refine mkL_go (fun _ => ?_)); have hc := @List.length_nil Nat)) <;> (try simp only [Bool.not_eq_true', Bool.not_eq_false', Bool.not_true, Bool.not_false] at hc) <;> (try simp only [hc, go_sem, reduceIte, Nat.reduceEqDiff, Nat.reduceAdd, Int.reduceEq, Nat.reduceLeDiff, Nat.reduceLT, Nat.reduceBEq, Nat.reduceMul, Nat.reduceSub, Int.reduceToNat, Int.reduceLE, Int.reduceLT, Int.reduceAdd, Int.reduceSub, Int.reduceMul, Int.reduceNeg, Int.reduceDiv, Int.reduceMod, Int.reduceTDiv, Int.reduceTMod, Int.reducePow, k1, d1, d2]))))

theorem lived_bad (p n : Int) (l : List Ev) (hl : ∀ e ∈ l, okE e) (hll : l.length < 9223372036854775808) (hb : ¬ bidP p n) : ∃ t : Bool, ans Try.prog pol 34 [.agg [I p, I n], .sl false 9 (l.map encE)] = some (.tup [lvT t, B false]) := by
  have k1 := New_ans true true p n [1, 4, 6, 11] [5, 5, 7, 1000] (by simp)
  rw [if_neg (by rw [start_ok]; simpa using hb)] at k1
  have m1 : (if (20 : Int) < (l.length : Nat) then 20 else ((l.length : Nat) : Int)) = ((min l.length 20 : Nat) : Int) := by split <;> omega
  have h1 : min l.length 20 ≤ l.length := Nat.min_le_left _ _
  have t1 := take_min (enc := encE) l 20
  have hl2 : ∀ e ∈ l.take 20, okE e := fun e he => hl e (List.mem_of_mem_take he)
  have hlen : (l.take 20).length ≤ 20 := by simp; omega
  have hlen2 : min l.length 20 = (l.take 20).length := by simp [Nat.min_comm]
  simp only [List.map_cons, List.map_nil] at k1
  generalize l.take 20 = L at *
  refine ⟨L.foldl (fun t e => t || e.tick) false, ?_⟩
  refine ans_go 100 1 il34_eq (Nat.le_of_ble_eq_true rfl) ?_
  (simp only [il34c, go_sem, reduceIte, Nat.reduceEqDiff, Nat.reduceAdd, Int.reduceEq, Nat.reduceLeDiff, Nat.reduceLT, Nat.reduceBEq, Nat.reduceMul, Nat.reduceSub, Int.reduceToNat, Int.reduceLE, Int.reduceLT, Int.reduceAdd, Int.reduceSub, Int.reduceMul, Int.reduceNeg, Int.reduceDiv, Int.reduceMod, Int.reduceTDiv, Int.reduceTMod, Int.reducePow, k1, m1, h1, t1] <;> (repeat' ((first | with_reducible refine brG_intro (fun hc => ?_) (fun hc => ?_) | with_reducible refine brC_intro (fun hc => ?_) (fun hc => ?_) | ((with_reducible refine c_opsD ?_); have hc := @List.length_nil Nat) | ((with_reducible refine c_opsT ?_); have hc := @List.length_nil Nat) | ((with_reducible refine and_crit ?_ ?_); rfl; have hc := @List.length_nil Nat) | ((with_reducible refine crit_done ?_); rfl) | ((with_reducible refine mkC_go (fun _ => ?_)); have hc := @List.length_nil Nat) | ((with_reducible refine mkL_go (fun _ => ?_)); have hc := @List.length_nil Nat)) <;> (try simp only [Bool.not_eq_true', Bool.not_eq_false', Bool.not_true, Bool.not_false] at hc) <;> (try simp only [hc, go_sem, reduceIte, Nat.reduceEqDiff, Nat.reduceAdd, Int.reduceEq, Nat.reduceLeDiff, Nat.reduceLT, Nat.reduceBEq, Nat.reduceMul, Nat.reduceSub, Int.reduceToNat, Int.reduceLE, Int.reduceLT, Int.reduceAdd, Int.reduceSub, Int.reduceMul, Int.reduceNeg, Int.reduceDiv, Int.reduceMod, Int.reduceTDiv, Int.reduceTMod, Int.reducePow, k1, m1, h1, t1]))))
  refine loop_range L encE (step := fun _ e t => .go (t || e.tick)) (fin := id)
    (St := fun i t e h => (e 4 = .ref 0 1 0 0 ∧ e 6 = .ref 1 1 0 0 ∧ e 7 = .t (I 2) ∧ e 23 = .t (.sl false 9 (L.map encE)) ∧ e 24 = .t (I (L.length : Nat)) ∧ e 25 = .t (I (i : Nat))) ∧ h = [.row 5 [.t zB] 0, .row 5 [.t (lvT t)] 1])
    (Ex := fun t x e h => (e 4 = .ref 0 1 0 0 ∧ e 6 = .ref 1 1 0 0 ∧ e 7 = .t (I 2)) ∧ x = .exit 0 ∧ h = [.row 5 [.t zB] 0, .row 5 [.t (lvT t)] 1]) (s := false) (by omega) ?_ ?_ (by omega) ?_ ?_
  · intro i ev t e h Y R hm hi hx hget hlt hw ⟨hs, hh⟩ hk
    subst hh
    simp only [ctlK_go] at hk
    have hev := hl2 ev hm
    simp only [okE] at hev
    have t1 : ev.port.tmod 4 = ev.port % 4 := Int.tmod_eq_emod_of_nonneg hev.1
    have v1 : IntKind.u8.wrap (ev.port % 4) = ev.port % 4 := by rw [wrap_u8]; omega
    have v2 : IntKind.i64.wrap (ev.port % 4) = ev.port % 4 := wrap_i64 (by omega) (by omega)
    obtain ⟨j, hj⟩ := Int.eq_ofNat_of_zero_le (show 0 ≤ ev.port % 4 by omega)
    rw [hj] at t1 v1 v2
    have r1 := tickT t
    have r2 := rcvT t j ev.h
    by_cases q : ev.tick = true
    · rw [q, Bool.or_true] at hk
      have e1 : lvT true = eB := rfl
      rw [e1] at hk
      cases t with
      | true =>
        simp only [lvT, if_true] at r1 ⊢
        (simp only [il34l0_go, il34l0b, go_sem, reduceIte, Nat.reduceEqDiff, Nat.reduceAdd, Int.reduceEq, Nat.reduceLeDiff, Nat.reduceLT, Nat.reduceBEq, Nat.reduceMul, Nat.reduceSub, Int.reduceToNat, Int.reduceLE, Int.reduceLT, Int.reduceAdd, Int.reduceSub, Int.reduceMul, Int.reduceNeg, Int.reduceDiv, Int.reduceMod, Int.reduceTDiv, Int.reduceTMod, Int.reducePow, hs, hget, hlt, hw, encE_cells, q, r1] <;> (repeat' ((first | with_reducible refine brG_intro (fun hc => ?_) (fun hc => ?_) | with_reducible refine brC_intro (fun hc => ?_) (fun hc => ?_) | ((with_reducible refine c_opsD ?_); have hc := @List.length_nil Nat) | ((with_reducible refine c_opsT ?_); have hc := @List.length_nil Nat) | ((with_reducible refine and_crit ?_ ?_); rfl; have hc := @List.length_nil Nat) | ((with_reducible refine crit_done ?_); rfl) | ((with_reducible refine mkC_go (fun _ => ?_)); have hc := @List.length_nil Nat) | ((with_reducible refine mkL_go (fun _ => ?_)); have hc := @List.length_nil Nat)) <;> (try simp only [Bool.not_eq_true', Bool.not_eq_false', Bool.not_true, Bool.not_false] at hc) <;> (try simp only [hc, go_sem, reduceIte, Nat.reduceEqDiff, Nat.reduceAdd, Int.reduceEq, Nat.reduceLeDiff, Nat.reduceLT, Nat.reduceBEq, Nat.reduceMul, Nat.reduceSub, Int.reduceToNat, Int.reduceLE, Int.reduceLT, Int.reduceAdd, Int.reduceSub, Int.reduceMul, Int.reduceNeg, Int.reduceDiv, Int.reduceMod, Int.reduceTDiv, Int.reduceTMod, Int.reducePow, hs, hget, hlt, hw, encE_cells, q, r1]))))
        all_goals (refine hk _ _ ⟨?_, rfl⟩; simp only [go_sem, reduceIte, Nat.reduceEqDiff, Nat.reduceAdd, Int.reduceEq, Nat.reduceLeDiff, Nat.reduceLT, Nat.reduceBEq, Nat.reduceMul, Nat.reduceSub, Int.reduceToNat, Int.reduceLE, Int.reduceLT, Int.reduceAdd, Int.reduceSub, Int.reduceMul, Int.reduceNeg, Int.reduceDiv, Int.reduceMod, Int.reduceTDiv, Int.reduceTMod, Int.reducePow, hs, hw])
      | false =>
        simp only [lvT, Bool.false_eq_true, if_false] at r1 ⊢
        (simp only [il34l0_go, il34l0b, go_sem, reduceIte, Nat.reduceEqDiff, Nat.reduceAdd, Int.reduceEq, Nat.reduceLeDiff, Nat.reduceLT, Nat.reduceBEq, Nat.reduceMul, Nat.reduceSub, Int.reduceToNat, Int.reduceLE, Int.reduceLT, Int.reduceAdd, Int.reduceSub, Int.reduceMul, Int.reduceNeg, Int.reduceDiv, Int.reduceMod, Int.reduceTDiv, Int.reduceTMod, Int.reducePow, hs, hget, hlt, hw, encE_cells, q, r1] <;> (repeat' ((first | with_reducible refine brG_intro (fun hc => ?_) (fun hc => ?_) | with_reducible refine brC_intro (fun hc => ?_) (fun hc => ?_) | ((with_reducible refine c_opsD ?_); have hc := @List.length_nil Nat) | ((with_reducible refine c_opsT ?_); have hc := @List.length_nil Nat) | ((with_reducible refine and_crit ?_ ?_); rfl; have hc := @List.length_nil Nat) | ((with_reducible refine crit_done ?_); rfl) | ((with_reducible refine mkC_go (fun _ => ?_)); have hc := @List.length_nil Nat) | ((with_reducible refine mkL_go (fun _ => ?_)); have hc := @List.length_nil Nat)) <;> (try simp only [Bool.not_eq_true', Bool.not_eq_false', Bool.not_true, Bool.not_false] at hc) <;> (try simp only [hc, go_sem, reduceIte, Nat.reduceEqDiff, Nat.reduceAdd, Int.reduceEq, Nat.reduceLeDiff, Nat.reduceLT, Nat.reduceBEq, Nat.reduceMul, Nat.reduceSub, Int.reduceToNat, Int.reduceLE, Int.reduceLT, Int.reduceAdd, Int.reduceSub, Int.reduceMul, Int.reduceNeg, Int.reduceDiv, Int.reduceMod, Int.reduceTDiv, Int.reduceTMod, Int.reducePow, hs, hget, hlt, hw, encE_cells, q, r1]))))
        all_goals (refine hk _ _ ⟨?_, rfl⟩; simp only [go_sem, reduceIte, Nat.reduceEqDiff, Nat.reduceAdd, Int.reduceEq, Nat.reduceLeDiff, Nat.reduceLT, Nat.reduceBEq, Nat.reduceMul, Nat.reduceSub, Int.reduceToNat, Int.reduceLE, Int.reduceLT, Int.reduceAdd, Int.reduceSub, Int.reduceMul, Int.reduceNeg, Int.reduceDiv, Int.reduceMod, Int.reduceTDiv, Int.reduceTMod, Int.reducePow, hs, hw])
    · have q' : ev.tick = false := by simpa using q
      rw [q', Bool.or_false] at hk
      cases t with
      | true =>
        simp only [lvT, if_true] at r2 hk ⊢
        (simp only [il34l0_go, il34l0b, go_sem, reduceIte, Nat.reduceEqDiff, Nat.reduceAdd, Int.reduceEq, Nat.reduceLeDiff, Nat.reduceLT, Nat.reduceBEq, Nat.reduceMul, Nat.reduceSub, Int.reduceToNat, Int.reduceLE, Int.reduceLT, Int.reduceAdd, Int.reduceSub, Int.reduceMul, Int.reduceNeg, Int.reduceDiv, Int.reduceMod, Int.reduceTDiv, Int.reduceTMod, Int.reducePow, hs, hget, hlt, hw, encE_cells, q', t1, v1, v2, r2] <;> (repeat' ((first | with_reducible refine brG_intro (fun hc => ?_) (fun hc => ?_) | with_reducible refine brC_intro (fun hc => ?_) (fun hc => ?_) | ((with_reducible refine c_opsD ?_); have hc := @List.length_nil Nat) | ((with_reducible refine c_opsT ?_); have hc := @List.length_nil Nat) | ((with_reducible refine and_crit ?_ ?_); rfl; have hc := @List.length_nil Nat) | ((with_reducible refine crit_done ?_); rfl) | ((with_reducible refine mkC_go (fun _ => ?_)); have hc := @List.length_nil Nat) | ((with_reducible refine mkL_go (fun _ => ?_)); have hc := @List.length_nil Nat)) <;> (try simp only [Bool.not_eq_true', Bool.not_eq_false', Bool.not_true, Bool.not_false] at hc) <;> (try simp only [hc, go_sem, reduceIte, Nat.reduceEqDiff, Nat.reduceAdd, Int.reduceEq, Nat.reduceLeDiff, Nat.reduceLT, Nat.reduceBEq, Nat.reduceMul, Nat.reduceSub, Int.reduceToNat, Int.reduceLE, Int.reduceLT, Int.reduceAdd, Int.reduceSub, Int.reduceMul, Int.reduceNeg, Int.reduceDiv, Int.reduceMod, Int.reduceTDiv, Int.reduceTMod, Int.reducePow, hs, hget, hlt, hw, encE_cells, q', t1, v1, v2, r2]))))
        all_goals (refine hk _ _ ⟨?_, rfl⟩; simp only [go_sem, reduceIte, Nat.reduceEqDiff, Nat.reduceAdd, Int.reduceEq, Nat.reduceLeDiff, Nat.reduceLT, Nat.reduceBEq, Nat.reduceMul, Nat.reduceSub, Int.reduceToNat, Int.reduceLE, Int.reduceLT, Int.reduceAdd, Int.reduceSub, Int.reduceMul, Int.reduceNeg, Int.reduceDiv, Int.reduceMod, Int.reduceTDiv, Int.reduceTMod, Int.reducePow, hs, hw])
      | false =>
        simp only [lvT, Bool.false_eq_true, if_false] at r2 hk ⊢
        (simp only [il34l0_go, il34l0b, go_sem, reduceIte, Nat.reduceEqDiff, Nat.reduceAdd, Int.reduceEq, Nat.reduceLeDiff, Nat.reduceLT, Nat.reduceBEq, Nat.reduceMul, Nat.reduceSub, Int.reduceToNat, Int.reduceLE, Int.reduceLT, Int.reduceAdd, Int.reduceSub, Int.reduceMul, Int.reduceNeg, Int.reduceDiv, Int.reduceMod, Int.reduceTDiv, Int.reduceTMod, Int.reducePow, hs, hget, hlt, hw, encE_cells, q', t1, v1, v2, r2] <;> (repeat' ((first | with_reducible refine brG_intro (fun hc => ?_) (fun hc => ?_) | with_reducible refine brC_intro (fun hc => ?_) (fun hc => ?_) | ((with_reducible refine c_opsD ?_); have hc := @List.length_nil Nat) | ((with_reducible refine c_opsT ?_); have hc := @List.length_nil Nat) | ((with_reducible refine and_crit ?_ ?_); rfl; have hc := @List.length_nil Nat) | ((with_reducible refine crit_done ?_); rfl) | ((with_reducible refine mkC_go (fun _ => ?_)); have hc := @List.length_nil Nat) | ((with_reducible refine mkL_go (fun _ => ?_)); have hc := @List.length_nil Nat)) <;> (try simp only [Bool.not_eq_true', Bool.not_eq_false', Bool.not_true, Bool.not_false] at hc) <;> (try simp only [hc, go_sem, reduceIte, Nat.reduceEqDiff, Nat.reduceAdd, Int.reduceEq, Nat.reduceLeDiff, Nat.reduceLT, Nat.reduceBEq, Nat.reduceMul, Nat.reduceSub, Int.reduceToNat, Int.reduceLE, Int.reduceLT, Int.reduceAdd, Int.reduceSub, Int.reduceMul, Int.reduceNeg, Int.reduceDiv, Int.reduceMod, Int.reduceTDiv, Int.reduceTMod, Int.reducePow, hs, hget, hlt, hw, encE_cells, q', t1, v1, v2, r2]))))
        all_goals (refine hk _ _ ⟨?_, rfl⟩; simp only [go_sem, reduceIte, Nat.reduceEqDiff, Nat.reduceAdd, Int.reduceEq, Nat.reduceLeDiff, Nat.reduceLT, Nat.reduceBEq, Nat.reduceMul, Nat.reduceSub, Int.reduceToNat, Int.reduceLE, Int.reduceLT, Int.reduceAdd, Int.reduceSub, Int.reduceMul, Int.reduceNeg, Int.reduceDiv, Int.reduceMod, Int.reduceTDiv, Int.reduceTMod, Int.reducePow, hs, hw])
  · intro t e h Y R hlt ⟨hs, hh⟩ hk
    subst hh
    (simp only [il34l0_go, il34l0b, go_sem, reduceIte, Nat.reduceEqDiff, Nat.reduceAdd, Int.reduceEq, Nat.reduceLeDiff, Nat.reduceLT, Nat.reduceBEq, Nat.reduceMul, Nat.reduceSub, Int.reduceToNat, Int.reduceLE, Int.reduceLT, Int.reduceAdd, Int.reduceSub, Int.reduceMul, Int.reduceNeg, Int.reduceDiv, Int.reduceMod, Int.reduceTDiv, Int.reduceTMod, Int.reducePow, hs, hlt] <;> (repeat' ((first | with_reducible refine brG_intro (fun hc => ?_) (fun hc => ?_) | with_reducible refine brC_intro (fun hc => ?_) (fun hc => ?_) | ((with_reducible refine c_opsD ?_); have hc := @List.length_nil Nat) | ((with_reducible refine c_opsT ?_); have hc := @List.length_nil Nat) | ((with_reducible refine and_crit ?_ ?_); rfl; have hc := @List.length_nil Nat) | ((with_reducible refine crit_done ?_); rfl) | ((with_reducible refine mkC_go (fun _ => ?_)); have hc := @List.length_nil Nat) | ((with_reducible refine mkL_go (fun _ => ?_)); have hc := @List.length_nil Nat)) <;> (try simp only [Bool.not_eq_true', Bool.not_eq_false', Bool.not_true, Bool.not_false] at hc) <;> (try simp only [hc, go_sem, reduceIte, Nat.reduceEqDiff, Nat.reduceAdd, Int.reduceEq, Nat.reduceLeDiff, Nat.reduceLT, Nat.reduceBEq, Nat.reduceMul, Nat.reduceSub, Int.reduceToNat, Int.reduceLE, Int.reduceLT, Int.reduceAdd, Int.reduceSub, Int.reduceMul, Int.reduceNeg, Int.reduceDiv, Int.reduceMod, Int.reduceTDiv, Int.reduceTMod, Int.reducePow, hs, hlt]))))
    all_goals (refine hk _ _ _ ⟨?_, rfl, rfl⟩; simp only [go_sem, reduceIte, Nat.reduceEqDiff, Nat.reduceAdd, Int.reduceEq, Nat.reduceLeDiff, Nat.reduceLT, Nat.reduceBEq, Nat.reduceMul, Nat.reduceSub, Int.reduceToNat, Int.reduceLE, Int.reduceLT, Int.reduceAdd, Int.reduceSub, Int.reduceMul, Int.reduceNeg, Int.reduceDiv, Int.reduceMod, Int.reduceTDiv, Int.reduceTMod, Int.reducePow, hs, id])
  · refine ⟨?_, rfl⟩
    simp only [go_sem, reduceIte, Nat.reduceEqDiff, Nat.reduceAdd, Int.reduceEq, Nat.reduceLeDiff, Nat.reduceLT, Nat.reduceBEq, Nat.reduceMul, Nat.reduceSub, Int.reduceToNat, Int.reduceLE, Int.reduceLT, Int.reduceAdd, Int.reduceSub, Int.reduceMul, Int.reduceNeg, Int.reduceDiv, Int.reduceMod, Int.reduceTDiv, Int.reduceTMod, Int.reducePow, hlen2]
  · intro x e h ⟨h1, h2, h3⟩
    rw [foldC_foldl] at h3
    subst h2 h3
    simp only [id]
    cases L.foldl (fun t e => t || e.tick) false with
    | true =>
      simp only [lvT, if_true]
      (simp only [il34c, go_sem, reduceIte, Nat.reduceEqDiff, Nat.reduceAdd, Int.reduceEq, Nat.reduceLeDiff, Nat.reduceLT, Nat.reduceBEq, Nat.reduceMul, Nat.reduceSub, Int.reduceToNat, Int.reduceLE, Int.reduceLT, Int.reduceAdd, Int.reduceSub, Int.reduceMul, Int.reduceNeg, Int.reduceDiv, Int.reduceMod, Int.reduceTDiv, Int.reduceTMod, Int.reducePow, h1] <;> (repeat' ((first | with_reducible refine brG_intro (fun hc => ?_) (fun hc => ?_) | with_reducible refine brC_intro (fun hc => ?_) (fun hc => ?_) | ((with_reducible refine c_opsD ?_); have hc := @List.length_nil Nat) | ((with_reducible refine c_opsT ?_); have hc := @List.length_nil Nat) | ((with_reducible refine and_crit ?_ ?_); rfl; have hc := @List.length_nil Nat) | ((with_reducible refine crit_done ?_); rfl) | ((with_reducible refine mkC_go (fun _ => ?_)); have hc := @List.length_nil Nat) | ((with_reducible refine mkL_go (fun _ => ?_)); have hc := @List.length_nil Nat)) <;> (try simp only [Bool.not_eq_true', Bool.not_eq_false', Bool.not_true, Bool.not_false] at hc) <;> (try simp only [hc, go_sem, reduceIte, Nat.reduceEqDiff, Nat.reduceAdd, Int.reduceEq, Nat.reduceLeDiff, Nat.reduceLT, Nat.reduceBEq, Nat.reduceMul, Nat.reduceSub, Int.reduceToNat, Int.reduceLE, Int.reduceLT, Int.reduceAdd, Int.reduceSub, Int.reduceMul, Int.reduceNeg, Int.reduceDiv, Int.reduceMod, Int.reduceTDiv, Int.reduceTMod, Int.reducePow, h1]))))
    | false =>
      simp only [lvT, Bool.false_eq_true, if_false]
      (simp only [il34c, go_sem, reduceIte, Nat.reduceEqDiff, Nat.reduceAdd, Int.reduceEq, Nat.reduceLeDiff, Nat.reduceLT, Nat.reduceBEq, Nat.reduceMul, Nat.reduceSub, Int.reduceToNat, Int.reduceLE, Int.reduceLT, Int.reduceAdd, Int.reduceSub, Int.reduceMul, Int.reduceNeg, Int.reduceDiv, Int.reduceMod, Int.reduceTDiv, Int.reduceTMod, Int.reducePow, h1] <;> (repeat' ((first | with_reducible refine brG_intro (fun hc => ?_) (fun hc => ?_) | with_reducible refine brC_intro (fun hc => ?_) (fun hc => ?_) | ((with_reducible refine c_opsD ?_); have hc := @List.length_nil Nat) | ((with_reducible refine c_opsT ?_); have hc := @List.length_nil Nat) | ((with_reducible refine and_crit ?_ ?_); rfl; have hc := @List.length_nil Nat) | ((with_reducible refine crit_done ?_); rfl) | ((with_reducible refine mkC_go (fun _ => ?_)); have hc := @List.length_nil Nat) | ((with_reducible refine mkL_go (fun _ => ?_)); have hc := @List.length_nil Nat)) <;> (try simp only [Bool.not_eq_true', Bool.not_eq_false', Bool.not_true, Bool.not_false] at hc) <;> (try simp only [hc, go_sem, reduceIte, Nat.reduceEqDiff, Nat.reduceAdd, Int.reduceEq, Nat.reduceLeDiff, Nat.reduceLT, Nat.reduceBEq, Nat.reduceMul, Nat.reduceSub, Int.reduceToNat, Int.reduceLE, Int.reduceLT, Int.reduceAdd, Int.reduceSub, Int.reduceMul, Int.reduceNeg, Int.reduceDiv, Int.reduceMod, Int.reduceTDiv, Int.reduceTMod, Int.reducePow, h1]))))

end Go.Proofs.Ytcpaijajddaidaa
