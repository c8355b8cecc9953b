/- The reference's Far: distances. -/
import Derived.Test.YtboknhdkadcaeaaElI
namespace Go.Proofs.Ytboknhdkadcaeaa
open Go Go.Abs
set_option linter.unusedSimpArgs false
set_option linter.unusedVariables false
set_option maxRecDepth 100000
set_option maxHeartbeats 4000000

def dAt (d : List Int) (i : Nat) : Int := d[i]?.getD (-1)
def upd1 (s : Nat) (d : List Int) (a b : Nat) : List Int := if dAt d a = (s : Int) ∧ dAt d b < 0 then d.set b ((s : Int) + 1) else d
def farL (s : Nat) (d : List Int) (l : Int × Int) : List Int := upd1 s (upd1 s d l.1.toNat l.2.toNat) l.2.toNat l.1.toNat
def farS (lk : List (Int × Int)) (s : Nat) (d : List Int) : List Int := lk.foldl (farL s) d
def far0 (n r : Nat) : List Int := (List.replicate n (-1 : Int)).set r 0
def farF (lk : List (Int × Int)) (n r : Nat) : List Int := (List.range n).foldl (fun d s => farS lk s d) (far0 n r)

theorem upd1_len (s : Nat) (d : List Int) (a b : Nat) : (upd1 s d a b).length = d.length := by unfold upd1; split <;> simp
theorem farL_len (s : Nat) (d : List Int) (l : Int × Int) : (farL s d l).length = d.length := by rw [farL, upd1_len, upd1_len]
theorem farS_len (lk : List (Int × Int)) (s : Nat) : ∀ d : List Int, (farS lk s d).length = d.length := by
  unfold farS
  induction lk with
  | nil => intro d; rfl
  | cons l lk ih => intro d; rw [List.foldl_cons, ih, farL_len]
theorem dAt_set {d : List Int} {b i : Nat} {x : Int} (hb : b < d.length) : dAt (d.set b x) i = if i = b then x else dAt d i := by
  unfold dAt
  rw [List.getElem?_set]
  by_cases h : b = i
  · subst h; simp [hb]
  · rw [if_neg h, if_neg (fun q => h q.symm)]

section
variable {ms : List Ms} {lk : List (Int × Int)} (hn : Net ms lk) {r : Nat}
/-- What is known of an entry while step s goes on. -/
def Ent (lk : List (Int × Int)) (r s : Nat) (x : Int) (i : Nat) : Prop := (x = -1 ∧ ∀ e, Dist lk r i e → s < e) ∨ ∃ e : Nat, e ≤ s + 1 ∧ Dist lk r i e ∧ x = (e : Int)
theorem ent_eq {s : Nat} {x : Int} {a : Nat} (h : Ent lk r s x a) : x = (s : Int) ↔ Dist lk r a s := by
  rcases h with ⟨rfl, h⟩ | ⟨e, h1, h2, rfl⟩
  · constructor
    · intro q; omega
    · intro q; have := h s q; omega
  · constructor
    · intro q
      have : e = s := by omega
      subst this; exact h2
    · intro q; rw [h2.uniq q]
theorem ent_upd {s a b : Nat} {x : Int} {k : Nat} (hab : Adj lk k a b) (ha : Dist lk r a s) (hb : Ent lk r s x b) (hx : x < 0) : Dist lk r b (s + 1) := by
  rcases hb with ⟨rfl, h⟩ | ⟨e, h1, h2, rfl⟩
  · obtain ⟨d, hd1, hd2⟩ := dist_of (show Walk lk (s + 1) r b from ⟨a, k, hab, ha.1⟩)
    have := h d hd2
    have : d = s + 1 := by omega
    subst this; exact hd2
  · omega
theorem upd1_ent {s : Nat} {d : List Int} {a b k : Nat} (hb : b < d.length) (hab : Adj lk k a b) (h : ∀ i, i < d.length → Ent lk r s (dAt d i) i) (ha : a < d.length) : ∀ i, i < d.length → Ent lk r s (dAt (upd1 s d a b) i) i := by
  intro i hi
  unfold upd1
  split
  · rename_i hc
    rw [dAt_set hb]
    split
    · rename_i q
      subst q
      have hda := (ent_eq (h a ha)).1 hc.1
      exact .inr ⟨s + 1, by omega, ent_upd hab hda (h i hb) hc.2, by simp⟩
    · exact h i hi
  · exact h i hi
theorem upd1_keep {s : Nat} {d : List Int} {a b i : Nat} (hb : b < d.length) (h : 0 ≤ dAt d i) : 0 ≤ dAt (upd1 s d a b) i := by
  unfold upd1
  split
  · rw [dAt_set hb]; split <;> omega
  · exact h
theorem upd1_hit {s : Nat} {d : List Int} {a b : Nat} (hb : b < d.length) (ha : a < d.length) (h : ∀ i, i < d.length → Ent lk r s (dAt d i) i) (hd : Dist lk r a s) : 0 ≤ dAt (upd1 s d a b) b := by
  unfold upd1
  have h1 := (ent_eq (h a ha)).2 hd
  split
  · rw [dAt_set hb, if_pos rfl]; omega
  · rename_i hc
    have : ¬ dAt d b < 0 := fun q => hc ⟨h1, q⟩
    omega
include hn
/-- One step over all links. -/
theorem farS_spec {s : Nat} : ∀ (k : Nat), k ≤ lk.length → ∀ d : List Int, d.length = ms.length → (∀ i, i < ms.length → Ent lk r s (dAt d i) i) →
    (∀ i, i < ms.length → Ent lk r s (dAt ((lk.take k).foldl (farL s) d) i) i) ∧ ∀ i j k', k' < k → Adj lk k' j i → Dist lk r j s → 0 ≤ dAt ((lk.take k).foldl (farL s) d) i := by
  intro k
  induction k with
  | zero => intro _ d hd h; exact ⟨by simpa using h, fun i j k' hk => by omega⟩
  | succ k ih =>
    intro hk d hd h
    obtain ⟨h1, h2⟩ := ih (by omega) d hd h
    obtain ⟨l, hl⟩ : ∃ l, lk[k]? = some l := ⟨lk[k], by simp⟩
    have e : lk.take (k + 1) = lk.take k ++ [l] := by rw [List.take_add_one, hl]; rfl
    rw [e, List.foldl_append, List.foldl_cons, List.foldl_nil]
    have hlen : ((lk.take k).foldl (farL s) d).length = ms.length := by
      have := farS_len (lk.take k) s d
      rw [farS] at this; rw [this, hd]
    generalize (lk.take k).foldl (farL s) d = D at *
    obtain ⟨a, b, rfl, ha, hb, hab⟩ := hn.lks k l hl
    have hadj : Adj lk k a b := .inl hl
    simp only [farL, Int.toNat_natCast]
    have g1 : ∀ i, i < (upd1 s D a b).length → Ent lk r s (dAt (upd1 s D a b) i) i := by
      rw [upd1_len]
      exact upd1_ent (by omega) hadj (by rw [hlen]; exact h1) (by omega)
    have hl1 : (upd1 s D a b).length = ms.length := by rw [upd1_len, hlen]
    have g2 := upd1_ent (s := s) (d := upd1 s D a b) (a := b) (b := a) (by omega) hadj.symm g1 (by omega)
    refine ⟨fun i hi => g2 i (by omega), ?_⟩
    intro i j k' hk' hji hd'
    by_cases q : k' = k
    · subst q
      have hcase : (j = a ∧ i = b) ∨ (j = b ∧ i = a) := by
        rcases hji with hji | hji <;> rw [hl] at hji <;> simp only [Option.some.injEq, Prod.mk.injEq] at hji <;> omega
      rcases hcase with ⟨rfl, rfl⟩ | ⟨rfl, rfl⟩
      · exact upd1_keep (by omega) (upd1_hit (by omega) (by omega) (by rw [hlen]; exact h1) hd')
      · exact upd1_hit (by omega) (by omega) g1 hd'
    · have := h2 i j k' (by omega) hji hd'
      have hi := (adj_of hn hji).2.1
      exact upd1_keep (by omega) (upd1_keep (by omega) this)
theorem far_steps (hr : r < ms.length) : ∀ (m : Nat), ((List.range m).foldl (fun d s => farS lk s d) (far0 ms.length r)).length = ms.length ∧ ∀ i, i < ms.length → Ent lk r m (dAt ((List.range m).foldl (fun d s => farS lk s d) (far0 ms.length r)) i) i := by
  intro m
  induction m with
  | zero =>
    refine ⟨by simp [far0], fun i hi => ?_⟩
    simp only [List.range_zero, List.foldl_nil, far0]
    rw [dAt_set (by simpa using hr)]
    by_cases q : i = r
    · subst q
      rw [if_pos rfl]
      exact .inr ⟨0, by omega, ⟨rfl, fun e _ => Nat.zero_le e⟩, rfl⟩
    · rw [if_neg q]
      left
      refine ⟨by simp [dAt, List.getElem?_replicate, hi], fun e he => ?_⟩
      apply Decidable.byContradiction
      intro h
      have : e = 0 := by omega
      subst this
      exact q he.1.symm
  | succ m ih =>
    obtain ⟨hl, h⟩ := ih
    rw [List.range_succ, List.foldl_append, List.foldl_cons, List.foldl_nil]
    generalize (List.range m).foldl (fun d s => farS lk s d) (far0 ms.length r) = d at *
    refine ⟨by rw [farS_len, hl], fun i hi => ?_⟩
    obtain ⟨g1, g2⟩ := farS_spec hn (s := m) (r := r) lk.length (Nat.le_refl _) d hl h
    rw [List.take_length] at g1 g2
    rcases g1 i hi with ⟨q1, q2⟩ | ⟨e, q1, q2, q3⟩
    · left
      refine ⟨q1, fun e he => ?_⟩
      have h1 := q2 e he
      apply Decidable.byContradiction
      intro hlt
      have : e = m + 1 := by omega
      subst this
      obtain ⟨k, j, hadj, hj⟩ := he.pred
      have hk : k < lk.length := by rcases hadj with h | h <;> exact (List.getElem?_eq_some_iff.1 h).1
      have := g2 i j k hk hadj.symm hj
      change 0 ≤ dAt (farS lk m d) i at this
      change dAt (farS lk m d) i = -1 at q1
      omega
    · exact .inr ⟨e, by omega, q2, q3⟩
/-- Far tells the distances. -/
theorem far_spec (hr : r < ms.length) {i : Nat} (hi : i < ms.length) : (dAt (farF lk ms.length r) i = -1 ∧ ¬ Reach lk r i) ∨ ∃ e : Nat, Dist lk r i e ∧ dAt (farF lk ms.length r) i = (e : Int) := by
  obtain ⟨_, h⟩ := far_steps hn hr ms.length
  rcases h i hi with ⟨h1, h2⟩ | ⟨e, _, h2, h3⟩
  · left
    refine ⟨h1, ?_⟩
    rintro ⟨t, ht⟩
    obtain ⟨d, _, hd⟩ := dist_of ht
    have := h2 d hd
    have := Dist.lt hn hd hr
    omega
  · exact .inr ⟨e, h2, h3⟩
theorem far_len (hr : r < ms.length) : (farF lk ms.length r).length = ms.length := (far_steps hn hr ms.length).1
end

/-! The contract of Far -/
theorem far_l1 (ms : List Ms) (lk : List (Int × Int)) (hlk : lk.length ≤ 24) (hn : Net ms lk) (s : Nat) (hs' : s < 12) (d : List Int) (hd : d.length = ms.length) (hdb : ∀ x ∈ d, -1 ≤ x ∧ x ≤ 100) (J : Inl) (n0 : Nat) (R : Xit → FEnv → Heap → Prop) (e : FEnv) (mr : Nat) (hmr : mr ≤ ms.length)
    (he : e 2 = .t (.ip [.sl false 6 (ms.map encMs), .sl false 2 (lk.map encLk)]) ∧ e 5 = .t (I' (ms.length : Nat)) ∧ e 6 = .ms 0 ms.length 0 ms.length 1 false ∧ e 8 = .t (I' (s : Nat)) ∧ e 9 = .t (I' 0))
    (hR : ∀ e mr, mr ≤ ms.length → (∀ x ∈ farS lk s d, -1 ≤ x ∧ x ≤ 100) → (e 2 = .t (.ip [.sl false 6 (ms.map encMs), .sl false 2 (lk.map encLk)]) ∧ e 5 = .t (I' (ms.length : Nat)) ∧ e 6 = .ms 0 ms.length 0 ms.length 1 false ∧ e 8 = .t (I' (s : Nat))) → R (.exit 4) e [.row 1 (((farS lk s d).map I').map .t) mr]) :
    wpIter 1 (some [2, 5, 6, 8, 9]) (wc Try.prog pol (ans Try.prog pol) J n0 40 il40l1) R 100 e [.row 1 ((d.map I').map .t) mr] := by
  refine loop_range lk encLk (step := fun k l d => .go (farL s d l)) (fin := id)
    (St := fun k d e h => (e 2 = .t (.ip [.sl false 6 (ms.map encMs), .sl false 2 (lk.map encLk)]) ∧ e 5 = .t (I' (ms.length : Nat)) ∧ e 6 = .ms 0 ms.length 0 ms.length 1 false ∧ e 8 = .t (I' (s : Nat)) ∧ e 9 = .t (I' (k : Nat))) ∧ d.length = ms.length ∧ (∀ x ∈ d, -1 ≤ x ∧ x ≤ 100) ∧ ∃ mr, mr ≤ ms.length ∧ h = [.row 1 ((d.map I').map .t) mr])
    (Ex := fun d x e h => (e 2 = .t (.ip [.sl false 6 (ms.map encMs), .sl false 2 (lk.map encLk)]) ∧ e 5 = .t (I' (ms.length : Nat)) ∧ e 6 = .ms 0 ms.length 0 ms.length 1 false ∧ e 8 = .t (I' (s : Nat))) ∧ x = .exit 4 ∧ (∀ x ∈ d, -1 ≤ x ∧ x ≤ 100) ∧ ∃ mr, mr ≤ ms.length ∧ h = [.row 1 ((d.map I').map .t) mr]) (s := d) (by omega) ?_ ?_ (by omega) ⟨he, hd, hdb, mr, hmr, rfl⟩ ?_
  · intro k l d e h Y R hm hi hx hget hlt hw ⟨hs, hd, hdb, mr, hmr, hh⟩ hk
    subst hh
    simp only [ctlK_go] at hk
    obtain ⟨a, b, rfl, ha, hb, hab⟩ := hn.lks k l hx
    simp only [farL, Int.toNat_natCast] at hk
    have v1 : IntKind.i64.wrap ((s : Int) + 1) = (s : Int) + 1 := wrap_i64 (by omega) (by omega)
    have setb : ∀ (d : List Int) (i : Nat), (∀ x ∈ d, -1 ≤ x ∧ x ≤ 100) → ∀ x ∈ d.set i ((s : Int) + 1), -1 ≤ x ∧ x ≤ 100 := by
      intro d i h x hx
      rcases List.mem_or_eq_of_mem_set hx with hx | hx
      · exact h x hx
      · subst hx; omega
    have gt : ∀ (d : List Int) (i : Nat), d.length = ms.length → i < ms.length → ((d.map I').map AV.t)[i]? = some (.t (I' (dAt d i))) := by
      intro d i h1 h2; exact map_get (enc := I') (by simp [dAt, h1, h2])
    have st : ∀ (d : List Int) (i : Nat) (x : Int), ((d.map I').map AV.t).set i (.t (I' x)) = ((d.set i x).map I').map AV.t := fun d i x => map_set (enc := I')
    have ga := gt d a hd ha
    have gb := gt d b hd hb
    by_cases c1 : dAt d a = (s : Int) ∧ dAt d b < 0
    · have d1 : decide (dAt d a = (s : Int)) = true := decide_eq_true c1.1
      have d2 : decide (dAt d b < 0) = true := decide_eq_true c1.2
      have hu : upd1 s d a b = d.set b ((s : Int) + 1) := by rw [upd1, if_pos c1]
      rw [hu] at hk
      have hd1 : (d.set b ((s : Int) + 1)).length = ms.length := by simp [hd]
      have ga' := gt (d.set b ((s : Int) + 1)) a hd1 ha
      have gb' := gt (d.set b ((s : Int) + 1)) b hd1 hb
      rw [dAt_set (by omega), if_neg hab] at ga'
      rw [dAt_set (by omega), if_pos rfl] at gb'
      have st1 := st d b ((s : Int) + 1)
      have hbb := setb d b hdb
      have hno : upd1 s (d.set b ((s : Int) + 1)) b a = d.set b ((s : Int) + 1) := by
        rw [upd1, if_neg]
        rw [dAt_set (by omega), if_pos rfl]
        omega
      rw [hno] at hk
      have d3 : decide ((s : Int) + 1 = (s : Int)) = false := decide_eq_false (by omega)
      generalize d.set b ((s : Int) + 1) = d' at *
      (simp only [il40l1_go, il40l1b, go_sem, reduceIte, Nat.reduceEqDiff, Nat.reduceAdd, Int.reduceEq, Nat.reduceLeDiff, Nat.reduceLT, Nat.reduceBEq, Nat.reduceMul, Nat.reduceSub, Int.reduceToNat, Int.reduceLE, Int.reduceLT, Int.reduceAdd, Int.reduceSub, Int.reduceMul, Int.reduceNeg, Int.reduceDiv, Int.reduceMod, Int.reduceTDiv, Int.reduceTMod, Int.reducePow, hs, hget, hlt, hw, encLk_cells, ga, gb, ga', gb', st1, d1, d2, d3, v1, ha, hb, hd, hd1, hmr] <;> (repeat' ((first | with_reducible refine brG_intro (fun hc => ?_) (fun hc => ?_) | with_reducible refine brC_intro (fun hc => ?_) (fun hc => ?_) | ((with_reducible refine c_opsD ?_); have hc := @List.length_nil Nat) | ((with_reducible refine c_opsT ?_); have hc := @List.length_nil Nat) | ((with_reducible refine and_crit ?_ ?_); rfl; have hc := @List.length_nil Nat) | ((with_reducible refine crit_done ?_); rfl) | ((with_reducible refine mkC_go (fun _ => ?_)); have hc := @List.length_nil Nat) | ((with_reducible refine mkL_go (fun _ => ?_)); have hc := @List.length_nil Nat)) <;> (try simp only [Bool.not_eq_true', Bool.not_eq_false', Bool.not_true, Bool.not_false] at hc) <;> (try simp only [hc, go_sem, reduceIte, Nat.reduceEqDiff, Nat.reduceAdd, Int.reduceEq, Nat.reduceLeDiff, Nat.reduceLT, Nat.reduceBEq, Nat.reduceMul, Nat.reduceSub, Int.reduceToNat, Int.reduceLE, Int.reduceLT, Int.reduceAdd, Int.reduceSub, Int.reduceMul, Int.reduceNeg, Int.reduceDiv, Int.reduceMod, Int.reduceTDiv, Int.reduceTMod, Int.reducePow, hs, hget, hlt, hw, encLk_cells, ga, gb, ga', gb', st1, d1, d2, d3, v1, ha, hb, hd, hd1, hmr]))))
      all_goals (refine hk _ _ ⟨?_, hd1, hbb, ms.length, Nat.le_refl _, rfl⟩; simp only [go_sem, reduceIte, Nat.reduceEqDiff, Nat.reduceAdd, Int.reduceEq, Nat.reduceLeDiff, Nat.reduceLT, Nat.reduceBEq, Nat.reduceMul, Nat.reduceSub, Int.reduceToNat, Int.reduceLE, Int.reduceLT, Int.reduceAdd, Int.reduceSub, Int.reduceMul, Int.reduceNeg, Int.reduceDiv, Int.reduceMod, Int.reduceTDiv, Int.reduceTMod, Int.reducePow, hs, hw])
    · have hu : upd1 s d a b = d := by rw [upd1, if_neg c1]
      rw [hu] at hk
      have f1 : (decide (dAt d a = (s : Int)) = false) ∨ decide (dAt d a = (s : Int)) = true ∧ decide (dAt d b < 0) = false := by
        by_cases q : dAt d a = (s : Int)
        · exact .inr ⟨decide_eq_true q, decide_eq_false (fun h => c1 ⟨q, h⟩)⟩
        · exact .inl (decide_eq_false q)
      by_cases c2 : dAt d b = (s : Int) ∧ dAt d a < 0
      · have d3 : decide (dAt d b = (s : Int)) = true := decide_eq_true c2.1
        have d4 : decide (dAt d a < 0) = true := decide_eq_true c2.2
        have d5 : decide (dAt d a = (s : Int)) = false := decide_eq_false (by omega)
        have hu : upd1 s d b a = d.set a ((s : Int) + 1) := by rw [upd1, if_pos c2]
        rw [hu] at hk
        have hd1 : (d.set a ((s : Int) + 1)).length = ms.length := by simp [hd]
        have st1 := st d a ((s : Int) + 1)
        have hbb := setb d a hdb
        generalize d.set a ((s : Int) + 1) = d' at *
        (simp only [il40l1_go, il40l1b, go_sem, reduceIte, Nat.reduceEqDiff, Nat.reduceAdd, Int.reduceEq, Nat.reduceLeDiff, Nat.reduceLT, Nat.reduceBEq, Nat.reduceMul, Nat.reduceSub, Int.reduceToNat, Int.reduceLE, Int.reduceLT, Int.reduceAdd, Int.reduceSub, Int.reduceMul, Int.reduceNeg, Int.reduceDiv, Int.reduceMod, Int.reduceTDiv, Int.reduceTMod, Int.reducePow, hs, hget, hlt, hw, encLk_cells, ga, gb, st1, d3, d4, d5, v1, ha, hb, hd, hd1, hmr] <;> (repeat' ((first | with_reducible refine brG_intro (fun hc => ?_) (fun hc => ?_) | with_reducible refine brC_intro (fun hc => ?_) (fun hc => ?_) | ((with_reducible refine c_opsD ?_); have hc := @List.length_nil Nat) | ((with_reducible refine c_opsT ?_); have hc := @List.length_nil Nat) | ((with_reducible refine and_crit ?_ ?_); rfl; have hc := @List.length_nil Nat) | ((with_reducible refine crit_done ?_); rfl) | ((with_reducible refine mkC_go (fun _ => ?_)); have hc := @List.length_nil Nat) | ((with_reducible refine mkL_go (fun _ => ?_)); have hc := @List.length_nil Nat)) <;> (try simp only [Bool.not_eq_true', Bool.not_eq_false', Bool.not_true, Bool.not_false] at hc) <;> (try simp only [hc, go_sem, reduceIte, Nat.reduceEqDiff, Nat.reduceAdd, Int.reduceEq, Nat.reduceLeDiff, Nat.reduceLT, Nat.reduceBEq, Nat.reduceMul, Nat.reduceSub, Int.reduceToNat, Int.reduceLE, Int.reduceLT, Int.reduceAdd, Int.reduceSub, Int.reduceMul, Int.reduceNeg, Int.reduceDiv, Int.reduceMod, Int.reduceTDiv, Int.reduceTMod, Int.reducePow, hs, hget, hlt, hw, encLk_cells, ga, gb, st1, d3, d4, d5, v1, ha, hb, hd, hd1, hmr]))))
        all_goals (refine hk _ _ ⟨?_, hd1, hbb, ms.length, Nat.le_refl _, rfl⟩; simp only [go_sem, reduceIte, Nat.reduceEqDiff, Nat.reduceAdd, Int.reduceEq, Nat.reduceLeDiff, Nat.reduceLT, Nat.reduceBEq, Nat.reduceMul, Nat.reduceSub, Int.reduceToNat, Int.reduceLE, Int.reduceLT, Int.reduceAdd, Int.reduceSub, Int.reduceMul, Int.reduceNeg, Int.reduceDiv, Int.reduceMod, Int.reduceTDiv, Int.reduceTMod, Int.reducePow, hs, hw])
      · have hu : upd1 s d b a = d := by rw [upd1, if_neg c2]
        rw [hu] at hk
        have f2 : (decide (dAt d b = (s : Int)) = false) ∨ decide (dAt d b = (s : Int)) = true ∧ decide (dAt d a < 0) = false := by
          by_cases q : dAt d b = (s : Int)
          · exact .inr ⟨decide_eq_true q, decide_eq_false (fun h => c2 ⟨q, h⟩)⟩
          · exact .inl (decide_eq_false q)
        rcases f1 with f1 | ⟨f1, f1'⟩
        · rcases f2 with f2 | ⟨f2, f2'⟩
          · (simp only [il40l1_go, il40l1b, go_sem, reduceIte, Nat.reduceEqDiff, Nat.reduceAdd, Int.reduceEq, Nat.reduceLeDiff, Nat.reduceLT, Nat.reduceBEq, Nat.reduceMul, Nat.reduceSub, Int.reduceToNat, Int.reduceLE, Int.reduceLT, Int.reduceAdd, Int.reduceSub, Int.reduceMul, Int.reduceNeg, Int.reduceDiv, Int.reduceMod, Int.reduceTDiv, Int.reduceTMod, Int.reducePow, hs, hget, hlt, hw, encLk_cells, ga, gb, f1, f2, ha, hb, hd, hmr] <;> (repeat' ((first | with_reducible refine brG_intro (fun hc => ?_) (fun hc => ?_) | with_reducible refine brC_intro (fun hc => ?_) (fun hc => ?_) | ((with_reducible refine c_opsD ?_); have hc := @List.length_nil Nat) | ((with_reducible refine c_opsT ?_); have hc := @List.length_nil Nat) | ((with_reducible refine and_crit ?_ ?_); rfl; have hc := @List.length_nil Nat) | ((with_reducible refine crit_done ?_); rfl) | ((with_reducible refine mkC_go (fun _ => ?_)); have hc := @List.length_nil Nat) | ((with_reducible refine mkL_go (fun _ => ?_)); have hc := @List.length_nil Nat)) <;> (try simp only [Bool.not_eq_true', Bool.not_eq_false', Bool.not_true, Bool.not_false] at hc) <;> (try simp only [hc, go_sem, reduceIte, Nat.reduceEqDiff, Nat.reduceAdd, Int.reduceEq, Nat.reduceLeDiff, Nat.reduceLT, Nat.reduceBEq, Nat.reduceMul, Nat.reduceSub, Int.reduceToNat, Int.reduceLE, Int.reduceLT, Int.reduceAdd, Int.reduceSub, Int.reduceMul, Int.reduceNeg, Int.reduceDiv, Int.reduceMod, Int.reduceTDiv, Int.reduceTMod, Int.reducePow, hs, hget, hlt, hw, encLk_cells, ga, gb, f1, f2, ha, hb, hd, hmr]))))
            all_goals (refine hk _ _ ⟨?_, hd, hdb, mr, hmr, rfl⟩; simp only [go_sem, reduceIte, Nat.reduceEqDiff, Nat.reduceAdd, Int.reduceEq, Nat.reduceLeDiff, Nat.reduceLT, Nat.reduceBEq, Nat.reduceMul, Nat.reduceSub, Int.reduceToNat, Int.reduceLE, Int.reduceLT, Int.reduceAdd, Int.reduceSub, Int.reduceMul, Int.reduceNeg, Int.reduceDiv, Int.reduceMod, Int.reduceTDiv, Int.reduceTMod, Int.reducePow, hs, hw])
          · (simp only [il40l1_go, il40l1b, go_sem, reduceIte, Nat.reduceEqDiff, Nat.reduceAdd, Int.reduceEq, Nat.reduceLeDiff, Nat.reduceLT, Nat.reduceBEq, Nat.reduceMul, Nat.reduceSub, Int.reduceToNat, Int.reduceLE, Int.reduceLT, Int.reduceAdd, Int.reduceSub, Int.reduceMul, Int.reduceNeg, Int.reduceDiv, Int.reduceMod, Int.reduceTDiv, Int.reduceTMod, Int.reducePow, hs, hget, hlt, hw, encLk_cells, ga, gb, f1, f2, f2', ha, hb, hd, hmr] <;> (repeat' ((first | with_reducible refine brG_intro (fun hc => ?_) (fun hc => ?_) | with_reducible refine brC_intro (fun hc => ?_) (fun hc => ?_) | ((with_reducible refine c_opsD ?_); have hc := @List.length_nil Nat) | ((with_reducible refine c_opsT ?_); have hc := @List.length_nil Nat) | ((with_reducible refine and_crit ?_ ?_); rfl; have hc := @List.length_nil Nat) | ((with_reducible refine crit_done ?_); rfl) | ((with_reducible refine mkC_go (fun _ => ?_)); have hc := @List.length_nil Nat) | ((with_reducible refine mkL_go (fun _ => ?_)); have hc := @List.length_nil Nat)) <;> (try simp only [Bool.not_eq_true', Bool.not_eq_false', Bool.not_true, Bool.not_false] at hc) <;> (try simp only [hc, go_sem, reduceIte, Nat.reduceEqDiff, Nat.reduceAdd, Int.reduceEq, Nat.reduceLeDiff, Nat.reduceLT, Nat.reduceBEq, Nat.reduceMul, Nat.reduceSub, Int.reduceToNat, Int.reduceLE, Int.reduceLT, Int.reduceAdd, Int.reduceSub, Int.reduceMul, Int.reduceNeg, Int.reduceDiv, Int.reduceMod, Int.reduceTDiv, Int.reduceTMod, Int.reducePow, hs, hget, hlt, hw, encLk_cells, ga, gb, f1, f2, f2', ha, hb, hd, hmr]))))
            all_goals (refine hk _ _ ⟨?_, hd, hdb, mr, hmr, rfl⟩; simp only [go_sem, reduceIte, Nat.reduceEqDiff, Nat.reduceAdd, Int.reduceEq, Nat.reduceLeDiff, Nat.reduceLT, Nat.reduceBEq, Nat.reduceMul, Nat.reduceSub, Int.reduceToNat, Int.reduceLE, Int.reduceLT, Int.reduceAdd, Int.reduceSub, Int.reduceMul, Int.reduceNeg, Int.reduceDiv, Int.reduceMod, Int.reduceTDiv, Int.reduceTMod, Int.reducePow, hs, hw])
        · rcases f2 with f2 | ⟨f2, f2'⟩
          · (simp only [il40l1_go, il40l1b, go_sem, reduceIte, Nat.reduceEqDiff, Nat.reduceAdd, Int.reduceEq, Nat.reduceLeDiff, Nat.reduceLT, Nat.reduceBEq, Nat.reduceMul, Nat.reduceSub, Int.reduceToNat, Int.reduceLE, Int.reduceLT, Int.reduceAdd, Int.reduceSub, Int.reduceMul, Int.reduceNeg, Int.reduceDiv, Int.reduceMod, Int.reduceTDiv, Int.reduceTMod, Int.reducePow, hs, hget, hlt, hw, encLk_cells, ga, gb, f1, f1', f2, ha, hb, hd, hmr] <;> (repeat' ((first | with_reducible refine brG_intro (fun hc => ?_) (fun hc => ?_) | with_reducible refine brC_intro (fun hc => ?_) (fun hc => ?_) | ((with_reducible refine c_opsD ?_); have hc := @List.length_nil Nat) | ((with_reducible refine c_opsT ?_); have hc := @List.length_nil Nat) | ((with_reducible refine and_crit ?_ ?_); rfl; have hc := @List.length_nil Nat) | ((with_reducible refine crit_done ?_); rfl) | ((with_reducible refine mkC_go (fun _ => ?_)); have hc := @List.length_nil Nat) | ((with_reducible refine mkL_go (fun _ => ?_)); have hc := @List.length_nil Nat)) <;> (try simp only [Bool.not_eq_true', Bool.not_eq_false', Bool.not_true, Bool.not_false] at hc) <;> (try simp only [hc, go_sem, reduceIte, Nat.reduceEqDiff, Nat.reduceAdd, Int.reduceEq, Nat.reduceLeDiff, Nat.reduceLT, Nat.reduceBEq, Nat.reduceMul, Nat.reduceSub, Int.reduceToNat, Int.reduceLE, Int.reduceLT, Int.reduceAdd, Int.reduceSub, Int.reduceMul, Int.reduceNeg, Int.reduceDiv, Int.reduceMod, Int.reduceTDiv, Int.reduceTMod, Int.reducePow, hs, hget, hlt, hw, encLk_cells, ga, gb, f1, f1', f2, ha, hb, hd, hmr]))))
            all_goals (refine hk _ _ ⟨?_, hd, hdb, mr, hmr, rfl⟩; simp only [go_sem, reduceIte, Nat.reduceEqDiff, Nat.reduceAdd, Int.reduceEq, Nat.reduceLeDiff, Nat.reduceLT, Nat.reduceBEq, Nat.reduceMul, Nat.reduceSub, Int.reduceToNat, Int.reduceLE, Int.reduceLT, Int.reduceAdd, Int.reduceSub, Int.reduceMul, Int.reduceNeg, Int.reduceDiv, Int.reduceMod, Int.reduceTDiv, Int.reduceTMod, Int.reducePow, hs, hw])
          · (simp only [il40l1_go, il40l1b, go_sem, reduceIte, Nat.reduceEqDiff, Nat.reduceAdd, Int.reduceEq, Nat.reduceLeDiff, Nat.reduceLT, Nat.reduceBEq, Nat.reduceMul, Nat.reduceSub, Int.reduceToNat, Int.reduceLE, Int.reduceLT, Int.reduceAdd, Int.reduceSub, Int.reduceMul, Int.reduceNeg, Int.reduceDiv, Int.reduceMod, Int.reduceTDiv, Int.reduceTMod, Int.reducePow, hs, hget, hlt, hw, encLk_cells, ga, gb, f1, f1', f2, f2', ha, hb, hd, hmr] <;> (repeat' ((first | with_reducible refine brG_intro (fun hc => ?_) (fun hc => ?_) | with_reducible refine brC_intro (fun hc => ?_) (fun hc => ?_) | ((with_reducible refine c_opsD ?_); have hc := @List.length_nil Nat) | ((with_reducible refine c_opsT ?_); have hc := @List.length_nil Nat) | ((with_reducible refine and_crit ?_ ?_); rfl; have hc := @List.length_nil Nat) | ((with_reducible refine crit_done ?_); rfl) | ((with_reducible refine mkC_go (fun _ => ?_)); have hc := @List.length_nil Nat) | ((with_reducible refine mkL_go (fun _ => ?_)); have hc := @List.length_nil Nat)) <;> (try simp only [Bool.not_eq_true', Bool.not_eq_false', Bool.not_true, Bool.not_false] at hc) <;> (try simp only [hc, go_sem, reduceIte, Nat.reduceEqDiff, Nat.reduceAdd, Int.reduceEq, Nat.reduceLeDiff, Nat.reduceLT, Nat.reduceBEq, Nat.reduceMul, Nat.reduceSub, Int.reduceToNat, Int.reduceLE, Int.reduceLT, Int.reduceAdd, Int.reduceSub, Int.reduceMul, Int.reduceNeg, Int.reduceDiv, Int.reduceMod, Int.reduceTDiv, Int.reduceTMod, Int.reducePow, hs, hget, hlt, hw, encLk_cells, ga, gb, f1, f1', f2, f2', ha, hb, hd, hmr]))))
            all_goals (refine hk _ _ ⟨?_, hd, hdb, mr, hmr, rfl⟩; simp only [go_sem, reduceIte, Nat.reduceEqDiff, Nat.reduceAdd, Int.reduceEq, Nat.reduceLeDiff, Nat.reduceLT, Nat.reduceBEq, Nat.reduceMul, Nat.reduceSub, Int.reduceToNat, Int.reduceLE, Int.reduceLT, Int.reduceAdd, Int.reduceSub, Int.reduceMul, Int.reduceNeg, Int.reduceDiv, Int.reduceMod, Int.reduceTDiv, Int.reduceTMod, Int.reducePow, hs, hw])
  · intro d e h Y R hlt ⟨hs, hd, hdb, mr, hmr, hh⟩ hk
    subst hh
    (simp only [il40l1_go, il40l1b, go_sem, reduceIte, Nat.reduceEqDiff, Nat.reduceAdd, Int.reduceEq, Nat.reduceLeDiff, Nat.reduceLT, Nat.reduceBEq, Nat.reduceMul, Nat.reduceSub, Int.reduceToNat, Int.reduceLE, Int.reduceLT, Int.reduceAdd, Int.reduceSub, Int.reduceMul, Int.reduceNeg, Int.reduceDiv, Int.reduceMod, Int.reduceTDiv, Int.reduceTMod, Int.reducePow, hs, hlt] <;> (repeat' ((first | with_reducible refine brG_intro (fun hc => ?_) (fun hc => ?_) | with_reducible refine brC_intro (fun hc => ?_) (fun hc => ?_) | ((with_reducible refine c_opsD ?_); have hc := @List.length_nil Nat) | ((with_reducible refine c_opsT ?_); have hc := @List.length_nil Nat) | ((with_reducible refine and_crit ?_ ?_); rfl; have hc := @List.length_nil Nat) | ((with_reducible refine crit_done ?_); rfl) | ((with_reducible refine mkC_go (fun _ => ?_)); have hc := @List.length_nil Nat) | ((with_reducible refine mkL_go (fun _ => ?_)); have hc := @List.length_nil Nat)) <;> (try simp only [Bool.not_eq_true', Bool.not_eq_false', Bool.not_true, Bool.not_false] at hc) <;> (try simp only [hc, go_sem, reduceIte, Nat.reduceEqDiff, Nat.reduceAdd, Int.reduceEq, Nat.reduceLeDiff, Nat.reduceLT, Nat.reduceBEq, Nat.reduceMul, Nat.reduceSub, Int.reduceToNat, Int.reduceLE, Int.reduceLT, Int.reduceAdd, Int.reduceSub, Int.reduceMul, Int.reduceNeg, Int.reduceDiv, Int.reduceMod, Int.reduceTDiv, Int.reduceTMod, Int.reducePow, hs, hlt]))))
    all_goals (refine hk _ _ _ ⟨?_, rfl, hdb, mr, hmr, rfl⟩; simp only [go_sem, reduceIte, Nat.reduceEqDiff, Nat.reduceAdd, Int.reduceEq, Nat.reduceLeDiff, Nat.reduceLT, Nat.reduceBEq, Nat.reduceMul, Nat.reduceSub, Int.reduceToNat, Int.reduceLE, Int.reduceLT, Int.reduceAdd, Int.reduceSub, Int.reduceMul, Int.reduceNeg, Int.reduceDiv, Int.reduceMod, Int.reduceTDiv, Int.reduceTMod, Int.reducePow, hs])
  · intro x e h ⟨h1, h2, h3, mr, hmr, h4⟩
    rw [foldC_foldl] at h3 h4
    subst h2 h4
    exact hR _ mr hmr h3 h1

theorem far_ans (ms : List Ms) (lk : List (Int × Int)) (r : Nat) (h1 : okS ms lk = true) (hr : r < ms.length) : ans Try.prog pol 40 [spT ms lk, I' (r : Nat)] = some (.sl false 1 ((farF lk ms.length r).map I')) := by
  obtain ⟨hl1, hl2⟩ := okS_len h1
  have hn := net_of h1
  refine ans_go 100 1 il40_eq (Nat.le_of_ble_eq_true rfl) ?_
  (simp only [il40c, go_sem, reduceIte, Nat.reduceEqDiff, Nat.reduceAdd, Int.reduceEq, Nat.reduceLeDiff, Nat.reduceLT, Nat.reduceBEq, Nat.reduceMul, Nat.reduceSub, Int.reduceToNat, Int.reduceLE, Int.reduceLT, Int.reduceAdd, Int.reduceSub, Int.reduceMul, Int.reduceNeg, Int.reduceDiv, Int.reduceMod, Int.reduceTDiv, Int.reduceTMod, Int.reducePow] <;> (repeat' ((first | with_reducible refine brG_intro (fun hc => ?_) (fun hc => ?_) | with_reducible refine brC_intro (fun hc => ?_) (fun hc => ?_) | ((with_reducible refine c_opsD ?_); have hc := @List.length_nil Nat) | ((with_reducible refine c_opsT ?_); have hc := @List.length_nil Nat) | ((with_reducible refine and_crit ?_ ?_); rfl; have hc := @List.length_nil Nat) | ((with_reducible refine crit_done ?_); rfl) | ((with_reducible refine mkC_go (fun _ => ?_)); have hc := @List.length_nil Nat) | ((with_reducible refine mkL_go (fun _ => ?_)); have hc := @List.length_nil Nat)) <;> (try simp only [Bool.not_eq_true', Bool.not_eq_false', Bool.not_true, Bool.not_false] at hc) <;> (try simp only [hc, go_sem, reduceIte, Nat.reduceEqDiff, Nat.reduceAdd, Int.reduceEq, Nat.reduceLeDiff, Nat.reduceLT, Nat.reduceBEq, Nat.reduceMul, Nat.reduceSub, Int.reduceToNat, Int.reduceLE, Int.reduceLT, Int.reduceAdd, Int.reduceSub, Int.reduceMul, Int.reduceNeg, Int.reduceDiv, Int.reduceMod, Int.reduceTDiv, Int.reduceTMod, Int.reducePow]))))
  refine loop_upto ms.length (step := fun i (_ : Unit) => Ctl.go ()) (fin := id)
    (St := fun i _ e h => (e 1 = .t (I' (r : Nat)) ∧ e 2 = .t (.ip [.sl false 6 (ms.map encMs), .sl false 2 (lk.map encLk)]) ∧ e 5 = .t (I' (ms.length : Nat)) ∧ e 6 = .ms 0 i 0 i 1 false ∧ e 7 = .t (I' (i : Nat))) ∧ h = [rowG 1 I' (List.replicate i (-1))])
    (Ex := fun _ x e h => (e 1 = .t (I' (r : Nat)) ∧ e 2 = .t (.ip [.sl false 6 (ms.map encMs), .sl false 2 (lk.map encLk)]) ∧ e 5 = .t (I' (ms.length : Nat)) ∧ e 6 = .ms 0 ms.length 0 ms.length 1 false) ∧ x = .exit 0 ∧ h = [rowG 1 I' (List.replicate ms.length (-1))]) (s := ()) (by omega) ?_ ?_ (by omega) ?_ ?_
  · intro i _ e h Y R hi hlt hw ⟨hs, hh⟩ hk
    subst hh
    simp only [ctlK_go] at hk
    have hroom : (i + 1) * 8 ≤ roomB := ap_room (by omega) (by omega)
    have hrl : (List.replicate i (-1 : Int)).length = i := by simp
    have his : rowIs 1 i (some (rowG 1 I' (List.replicate i (-1 : Int)))) := by have := rowG_is (k := 1) (enc := I') (l := List.replicate i (-1 : Int)); rwa [hrl] at this
    (simp only [il40l0_go, il40l0b, go_sem, reduceIte, Nat.reduceEqDiff, Nat.reduceAdd, Int.reduceEq, Nat.reduceLeDiff, Nat.reduceLT, Nat.reduceBEq, Nat.reduceMul, Nat.reduceSub, Int.reduceToNat, Int.reduceLE, Int.reduceLT, Int.reduceAdd, Int.reduceSub, Int.reduceMul, Int.reduceNeg, Int.reduceDiv, Int.reduceMod, Int.reduceTDiv, Int.reduceTMod, Int.reducePow, hs, hlt, hw, hroom, his, rowG_es, rowG_mr, frz_rowG] <;> (repeat' ((first | with_reducible refine brG_intro (fun hc => ?_) (fun hc => ?_) | with_reducible refine brC_intro (fun hc => ?_) (fun hc => ?_) | ((with_reducible refine c_opsD ?_); have hc := @List.length_nil Nat) | ((with_reducible refine c_opsT ?_); have hc := @List.length_nil Nat) | ((with_reducible refine and_crit ?_ ?_); rfl; have hc := @List.length_nil Nat) | ((with_reducible refine crit_done ?_); rfl) | ((with_reducible refine mkC_go (fun _ => ?_)); have hc := @List.length_nil Nat) | ((with_reducible refine mkL_go (fun _ => ?_)); have hc := @List.length_nil Nat)) <;> (try simp only [Bool.not_eq_true', Bool.not_eq_false', Bool.not_true, Bool.not_false] at hc) <;> (try simp only [hc, go_sem, reduceIte, Nat.reduceEqDiff, Nat.reduceAdd, Int.reduceEq, Nat.reduceLeDiff, Nat.reduceLT, Nat.reduceBEq, Nat.reduceMul, Nat.reduceSub, Int.reduceToNat, Int.reduceLE, Int.reduceLT, Int.reduceAdd, Int.reduceSub, Int.reduceMul, Int.reduceNeg, Int.reduceDiv, Int.reduceMod, Int.reduceTDiv, Int.reduceTMod, Int.reducePow, hs, hlt, hw, hroom, his, rowG_es, rowG_mr, frz_rowG]))))
    all_goals (refine hk _ _ ⟨?_, ?_⟩ <;> (try simp only [go_sem, reduceIte, Nat.reduceEqDiff, Nat.reduceAdd, Int.reduceEq, Nat.reduceLeDiff, Nat.reduceLT, Nat.reduceBEq, Nat.reduceMul, Nat.reduceSub, Int.reduceToNat, Int.reduceLE, Int.reduceLT, Int.reduceAdd, Int.reduceSub, Int.reduceMul, Int.reduceNeg, Int.reduceDiv, Int.reduceMod, Int.reduceTDiv, Int.reduceTMod, Int.reducePow, hs, hw]))
    all_goals simp [rowG, List.replicate_succ']
  · intro _ e h Y R hlt ⟨hs, hh⟩ hk
    subst hh
    (simp only [il40l0_go, il40l0b, go_sem, reduceIte, Nat.reduceEqDiff, Nat.reduceAdd, Int.reduceEq, Nat.reduceLeDiff, Nat.reduceLT, Nat.reduceBEq, Nat.reduceMul, Nat.reduceSub, Int.reduceToNat, Int.reduceLE, Int.reduceLT, Int.reduceAdd, Int.reduceSub, Int.reduceMul, Int.reduceNeg, Int.reduceDiv, Int.reduceMod, Int.reduceTDiv, Int.reduceTMod, Int.reducePow, hs, hlt, frz_rowG] <;> (repeat' ((first | with_reducible refine brG_intro (fun hc => ?_) (fun hc => ?_) | with_reducible refine brC_intro (fun hc => ?_) (fun hc => ?_) | ((with_reducible refine c_opsD ?_); have hc := @List.length_nil Nat) | ((with_reducible refine c_opsT ?_); have hc := @List.length_nil Nat) | ((with_reducible refine and_crit ?_ ?_); rfl; have hc := @List.length_nil Nat) | ((with_reducible refine crit_done ?_); rfl) | ((with_reducible refine mkC_go (fun _ => ?_)); have hc := @List.length_nil Nat) | ((with_reducible refine mkL_go (fun _ => ?_)); have hc := @List.length_nil Nat)) <;> (try simp only [Bool.not_eq_true', Bool.not_eq_false', Bool.not_true, Bool.not_false] at hc) <;> (try simp only [hc, go_sem, reduceIte, Nat.reduceEqDiff, Nat.reduceAdd, Int.reduceEq, Nat.reduceLeDiff, Nat.reduceLT, Nat.reduceBEq, Nat.reduceMul, Nat.reduceSub, Int.reduceToNat, Int.reduceLE, Int.reduceLT, Int.reduceAdd, Int.reduceSub, Int.reduceMul, Int.reduceNeg, Int.reduceDiv, Int.reduceMod, Int.reduceTDiv, Int.reduceTMod, Int.reducePow, hs, hlt, frz_rowG]))))
    all_goals (refine hk _ _ _ ⟨?_, rfl, rfl⟩; simp only [go_sem, reduceIte, Nat.reduceEqDiff, Nat.reduceAdd, Int.reduceEq, Nat.reduceLeDiff, Nat.reduceLT, Nat.reduceBEq, Nat.reduceMul, Nat.reduceSub, Int.reduceToNat, Int.reduceLE, Int.reduceLT, Int.reduceAdd, Int.reduceSub, Int.reduceMul, Int.reduceNeg, Int.reduceDiv, Int.reduceMod, Int.reduceTDiv, Int.reduceTMod, Int.reducePow, hs])
  · refine ⟨?_, ?_⟩
    · simp only [go_sem, reduceIte, Nat.reduceEqDiff, Nat.reduceAdd, Int.reduceEq, Nat.reduceLeDiff, Nat.reduceLT, Nat.reduceBEq, Nat.reduceMul, Nat.reduceSub, Int.reduceToNat, Int.reduceLE, Int.reduceLT, Int.reduceAdd, Int.reduceSub, Int.reduceMul, Int.reduceNeg, Int.reduceDiv, Int.reduceMod, Int.reduceTDiv, Int.reduceTMod, Int.reducePow]
    · rfl
  · intro x e h ⟨g1, g2, g3⟩
    subst g2 g3
    have hrl : (List.replicate ms.length (-1 : Int)).length = ms.length := by simp
    have hget : (((List.replicate ms.length (-1 : Int)).map I').map AV.t)[r]? = some (.t (I' (-1))) := map_get (enc := I') (by simp [hr])
    have hset := map_set (enc := I') (l := List.replicate ms.length (-1 : Int)) (i := r) (x := 0)
    change _ = ((far0 ms.length r).map I').map AV.t at hset
    rw [rowG_eq]
    generalize List.replicate ms.length (-1 : Int) = W at *
    (simp only [il40c, go_sem, reduceIte, Nat.reduceEqDiff, Nat.reduceAdd, Int.reduceEq, Nat.reduceLeDiff, Nat.reduceLT, Nat.reduceBEq, Nat.reduceMul, Nat.reduceSub, Int.reduceToNat, Int.reduceLE, Int.reduceLT, Int.reduceAdd, Int.reduceSub, Int.reduceMul, Int.reduceNeg, Int.reduceDiv, Int.reduceMod, Int.reduceTDiv, Int.reduceTMod, Int.reducePow, g1, hrl, hget, hset, hr] <;> (repeat' ((first | with_reducible refine brG_intro (fun hc => ?_) (fun hc => ?_) | with_reducible refine brC_intro (fun hc => ?_) (fun hc => ?_) | ((with_reducible refine c_opsD ?_); have hc := @List.length_nil Nat) | ((with_reducible refine c_opsT ?_); have hc := @List.length_nil Nat) | ((with_reducible refine and_crit ?_ ?_); rfl; have hc := @List.length_nil Nat) | ((with_reducible refine crit_done ?_); rfl) | ((with_reducible refine mkC_go (fun _ => ?_)); have hc := @List.length_nil Nat) | ((with_reducible refine mkL_go (fun _ => ?_)); have hc := @List.length_nil Nat)) <;> (try simp only [Bool.not_eq_true', Bool.not_eq_false', Bool.not_true, Bool.not_false] at hc) <;> (try simp only [hc, go_sem, reduceIte, Nat.reduceEqDiff, Nat.reduceAdd, Int.reduceEq, Nat.reduceLeDiff, Nat.reduceLT, Nat.reduceBEq, Nat.reduceMul, Nat.reduceSub, Int.reduceToNat, Int.reduceLE, Int.reduceLT, Int.reduceAdd, Int.reduceSub, Int.reduceMul, Int.reduceNeg, Int.reduceDiv, Int.reduceMod, Int.reduceTDiv, Int.reduceTMod, Int.reducePow, g1, hrl, hget, hset, hr]))))
    have hfl : (far0 ms.length r).length = ms.length := by simp [far0]
    have hfb : ∀ x ∈ far0 ms.length r, -1 ≤ x ∧ x ≤ 100 := by
      intro x hx
      rcases List.mem_or_eq_of_mem_set hx with hx | hx
      · have := List.eq_of_mem_replicate hx; omega
      · omega
    refine loop_upto ms.length (step := fun s d => .go (farS lk s d)) (fin := id)
      (St := fun s d e h => (e 2 = .t (.ip [.sl false 6 (ms.map encMs), .sl false 2 (lk.map encLk)]) ∧ e 5 = .t (I' (ms.length : Nat)) ∧ e 6 = .ms 0 ms.length 0 ms.length 1 false ∧ e 8 = .t (I' (s : Nat))) ∧ d.length = ms.length ∧ (∀ x ∈ d, -1 ≤ x ∧ x ≤ 100) ∧ ∃ mr, mr ≤ ms.length ∧ h = [.row 1 ((d.map I').map .t) mr])
      (Ex := fun d x e h => (e 6 = .ms 0 ms.length 0 ms.length 1 false) ∧ x = .exit 2 ∧ d.length = ms.length ∧ ∃ mr, mr ≤ ms.length ∧ h = [.row 1 ((d.map I').map .t) mr]) (s := far0 ms.length r) (by omega) ?_ ?_ (by omega) ?_ ?_
    · intro s d e h Y R hi hlt hw ⟨hs, hd, hdb, mr, hmr, hh⟩ hk
      subst hh
      simp only [ctlK_go] at hk
      (simp only [il40l2_go, il40l2b, go_sem, reduceIte, Nat.reduceEqDiff, Nat.reduceAdd, Int.reduceEq, Nat.reduceLeDiff, Nat.reduceLT, Nat.reduceBEq, Nat.reduceMul, Nat.reduceSub, Int.reduceToNat, Int.reduceLE, Int.reduceLT, Int.reduceAdd, Int.reduceSub, Int.reduceMul, Int.reduceNeg, Int.reduceDiv, Int.reduceMod, Int.reduceTDiv, Int.reduceTMod, Int.reducePow, hs, hlt] <;> (repeat' ((first | with_reducible refine brG_intro (fun hc => ?_) (fun hc => ?_) | with_reducible refine brC_intro (fun hc => ?_) (fun hc => ?_) | ((with_reducible refine c_opsD ?_); have hc := @List.length_nil Nat) | ((with_reducible refine c_opsT ?_); have hc := @List.length_nil Nat) | ((with_reducible refine and_crit ?_ ?_); rfl; have hc := @List.length_nil Nat) | ((with_reducible refine crit_done ?_); rfl) | ((with_reducible refine mkC_go (fun _ => ?_)); have hc := @List.length_nil Nat) | ((with_reducible refine mkL_go (fun _ => ?_)); have hc := @List.length_nil Nat)) <;> (try simp only [Bool.not_eq_true', Bool.not_eq_false', Bool.not_true, Bool.not_false] at hc) <;> (try simp only [hc, go_sem, reduceIte, Nat.reduceEqDiff, Nat.reduceAdd, Int.reduceEq, Nat.reduceLeDiff, Nat.reduceLT, Nat.reduceBEq, Nat.reduceMul, Nat.reduceSub, Int.reduceToNat, Int.reduceLE, Int.reduceLT, Int.reduceAdd, Int.reduceSub, Int.reduceMul, Int.reduceNeg, Int.reduceDiv, Int.reduceMod, Int.reduceTDiv, Int.reduceTMod, Int.reducePow, hs, hlt]))))
      refine far_l1 ms lk hl2 hn s (by omega) d hd hdb _ _ _ _ mr hmr (by simp only [go_sem, reduceIte, Nat.reduceEqDiff, Nat.reduceAdd, Int.reduceEq, Nat.reduceLeDiff, Nat.reduceLT, Nat.reduceBEq, Nat.reduceMul, Nat.reduceSub, Int.reduceToNat, Int.reduceLE, Int.reduceLT, Int.reduceAdd, Int.reduceSub, Int.reduceMul, Int.reduceNeg, Int.reduceDiv, Int.reduceMod, Int.reduceTDiv, Int.reduceTMod, Int.reducePow, hs]) ?_
      intro e mr hmr hb he
      have hd2 : (farS lk s d).length = ms.length := by rw [farS_len, hd]
      generalize farS lk s d = d2 at *
      (simp only [il40l2_go, il40l2b, go_sem, reduceIte, Nat.reduceEqDiff, Nat.reduceAdd, Int.reduceEq, Nat.reduceLeDiff, Nat.reduceLT, Nat.reduceBEq, Nat.reduceMul, Nat.reduceSub, Int.reduceToNat, Int.reduceLE, Int.reduceLT, Int.reduceAdd, Int.reduceSub, Int.reduceMul, Int.reduceNeg, Int.reduceDiv, Int.reduceMod, Int.reduceTDiv, Int.reduceTMod, Int.reducePow, he, hw] <;> (repeat' ((first | with_reducible refine brG_intro (fun hc => ?_) (fun hc => ?_) | with_reducible refine brC_intro (fun hc => ?_) (fun hc => ?_) | ((with_reducible refine c_opsD ?_); have hc := @List.length_nil Nat) | ((with_reducible refine c_opsT ?_); have hc := @List.length_nil Nat) | ((with_reducible refine and_crit ?_ ?_); rfl; have hc := @List.length_nil Nat) | ((with_reducible refine crit_done ?_); rfl) | ((with_reducible refine mkC_go (fun _ => ?_)); have hc := @List.length_nil Nat) | ((with_reducible refine mkL_go (fun _ => ?_)); have hc := @List.length_nil Nat)) <;> (try simp only [Bool.not_eq_true', Bool.not_eq_false', Bool.not_true, Bool.not_false] at hc) <;> (try simp only [hc, go_sem, reduceIte, Nat.reduceEqDiff, Nat.reduceAdd, Int.reduceEq, Nat.reduceLeDiff, Nat.reduceLT, Nat.reduceBEq, Nat.reduceMul, Nat.reduceSub, Int.reduceToNat, Int.reduceLE, Int.reduceLT, Int.reduceAdd, Int.reduceSub, Int.reduceMul, Int.reduceNeg, Int.reduceDiv, Int.reduceMod, Int.reduceTDiv, Int.reduceTMod, Int.reducePow, he, hw]))))
      all_goals (refine hk _ _ ⟨?_, hd2, hb, mr, hmr, rfl⟩; simp only [go_sem, reduceIte, Nat.reduceEqDiff, Nat.reduceAdd, Int.reduceEq, Nat.reduceLeDiff, Nat.reduceLT, Nat.reduceBEq, Nat.reduceMul, Nat.reduceSub, Int.reduceToNat, Int.reduceLE, Int.reduceLT, Int.reduceAdd, Int.reduceSub, Int.reduceMul, Int.reduceNeg, Int.reduceDiv, Int.reduceMod, Int.reduceTDiv, Int.reduceTMod, Int.reducePow, he, hw])
    · intro d e h Y R hlt ⟨hs, hd, hdb, mr, hmr, hh⟩ hk
      subst hh
      (simp only [il40l2_go, il40l2b, go_sem, reduceIte, Nat.reduceEqDiff, Nat.reduceAdd, Int.reduceEq, Nat.reduceLeDiff, Nat.reduceLT, Nat.reduceBEq, Nat.reduceMul, Nat.reduceSub, Int.reduceToNat, Int.reduceLE, Int.reduceLT, Int.reduceAdd, Int.reduceSub, Int.reduceMul, Int.reduceNeg, Int.reduceDiv, Int.reduceMod, Int.reduceTDiv, Int.reduceTMod, Int.reducePow, hs, hlt] <;> (repeat' ((first | with_reducible refine brG_intro (fun hc => ?_) (fun hc => ?_) | with_reducible refine brC_intro (fun hc => ?_) (fun hc => ?_) | ((with_reducible refine c_opsD ?_); have hc := @List.length_nil Nat) | ((with_reducible refine c_opsT ?_); have hc := @List.length_nil Nat) | ((with_reducible refine and_crit ?_ ?_); rfl; have hc := @List.length_nil Nat) | ((with_reducible refine crit_done ?_); rfl) | ((with_reducible refine mkC_go (fun _ => ?_)); have hc := @List.length_nil Nat) | ((with_reducible refine mkL_go (fun _ => ?_)); have hc := @List.length_nil Nat)) <;> (try simp only [Bool.not_eq_true', Bool.not_eq_false', Bool.not_true, Bool.not_false] at hc) <;> (try simp only [hc, go_sem, reduceIte, Nat.reduceEqDiff, Nat.reduceAdd, Int.reduceEq, Nat.reduceLeDiff, Nat.reduceLT, Nat.reduceBEq, Nat.reduceMul, Nat.reduceSub, Int.reduceToNat, Int.reduceLE, Int.reduceLT, Int.reduceAdd, Int.reduceSub, Int.reduceMul, Int.reduceNeg, Int.reduceDiv, Int.reduceMod, Int.reduceTDiv, Int.reduceTMod, Int.reducePow, hs, hlt]))))
      all_goals (refine hk _ _ _ ⟨?_, rfl, hd, mr, hmr, rfl⟩; simp only [go_sem, reduceIte, Nat.reduceEqDiff, Nat.reduceAdd, Int.reduceEq, Nat.reduceLeDiff, Nat.reduceLT, Nat.reduceBEq, Nat.reduceMul, Nat.reduceSub, Int.reduceToNat, Int.reduceLE, Int.reduceLT, Int.reduceAdd, Int.reduceSub, Int.reduceMul, Int.reduceNeg, Int.reduceDiv, Int.reduceMod, Int.reduceTDiv, Int.reduceTMod, Int.reducePow, hs])
    · refine ⟨?_, hfl, hfb, ms.length, Nat.le_refl _, rfl⟩
      simp only [go_sem, reduceIte, Nat.reduceEqDiff, Nat.reduceAdd, Int.reduceEq, Nat.reduceLeDiff, Nat.reduceLT, Nat.reduceBEq, Nat.reduceMul, Nat.reduceSub, Int.reduceToNat, Int.reduceLE, Int.reduceLT, Int.reduceAdd, Int.reduceSub, Int.reduceMul, Int.reduceNeg, Int.reduceDiv, Int.reduceMod, Int.reduceTDiv, Int.reduceTMod, Int.reducePow, g1]
    · intro x e h ⟨q1, q2, q3, mr, hmr, q4⟩
      have hf : ∀ (k i : Nat) (d : List Int), foldC (ρ := List Int) (fun s (_ : Unit) d => Ctl.go (farS lk s d)) id i (List.replicate k ()) d = (List.range' i k).foldl (fun d s => farS lk s d) d := by
        intro k
        induction k with
        | zero => intro i d; simp [foldC]
        | succ k ih => intro i d; rw [List.replicate_succ, foldC_go (s' := farS lk i d) rfl, ih, List.range'_succ]; rfl
      rw [hf, ← List.range_eq_range'] at q3 q4
      change (farF lk ms.length r).length = _ at q3
      change h = [.row 1 (((farF lk ms.length r).map I').map .t) mr] at q4
      subst q2 q4
      generalize farF lk ms.length r = D at *
      (simp only [il40c, go_sem, reduceIte, Nat.reduceEqDiff, Nat.reduceAdd, Int.reduceEq, Nat.reduceLeDiff, Nat.reduceLT, Nat.reduceBEq, Nat.reduceMul, Nat.reduceSub, Int.reduceToNat, Int.reduceLE, Int.reduceLT, Int.reduceAdd, Int.reduceSub, Int.reduceMul, Int.reduceNeg, Int.reduceDiv, Int.reduceMod, Int.reduceTDiv, Int.reduceTMod, Int.reducePow, q1, q3, hmr] <;> (repeat' ((first | with_reducible refine brG_intro (fun hc => ?_) (fun hc => ?_) | with_reducible refine brC_intro (fun hc => ?_) (fun hc => ?_) | ((with_reducible refine c_opsD ?_); have hc := @List.length_nil Nat) | ((with_reducible refine c_opsT ?_); have hc := @List.length_nil Nat) | ((with_reducible refine and_crit ?_ ?_); rfl; have hc := @List.length_nil Nat) | ((with_reducible refine crit_done ?_); rfl) | ((with_reducible refine mkC_go (fun _ => ?_)); have hc := @List.length_nil Nat) | ((with_reducible refine mkL_go (fun _ => ?_)); have hc := @List.length_nil Nat)) <;> (try simp only [Bool.not_eq_true', Bool.not_eq_false', Bool.not_true, Bool.not_false] at hc) <;> (try simp only [hc, go_sem, reduceIte, Nat.reduceEqDiff, Nat.reduceAdd, Int.reduceEq, Nat.reduceLeDiff, Nat.reduceLT, Nat.reduceBEq, Nat.reduceMul, Nat.reduceSub, Int.reduceToNat, Int.reduceLE, Int.reduceLT, Int.reduceAdd, Int.reduceSub, Int.reduceMul, Int.reduceNeg, Int.reduceDiv, Int.reduceMod, Int.reduceTDiv, Int.reduceTMod, Int.reducePow, q1, q3, hmr]))))

end Go.Proofs.Ytboknhdkadcaeaa
