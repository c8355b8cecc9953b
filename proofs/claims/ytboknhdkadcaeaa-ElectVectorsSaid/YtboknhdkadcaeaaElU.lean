/- The reference's Elect. -/
import Derived.Test.YtboknhdkadcaeaaElS
import Derived.Test.YtboknhdkadcaeaaElK
namespace Go.Proofs.Ytboknhdkadcaeaa
open Go Go.Abs
set_option linter.unusedSimpArgs false
set_option linter.unusedVariables false
set_option maxRecDepth 100000
set_option maxHeartbeats 4000000

def rootS (ms : List Ms) (d : List Int) (root j : Nat) : Nat := if 0 ≤ dAt d j ∧ cmpM (msAt ms j) (msAt ms root) < 0 then j else root
def rootF (ms : List Ms) (d : List Int) (i : Nat) : Nat := (List.range ms.length).foldl (rootS ms d) i
def sndS (d : List Int) (i : Nat) (s : Int × Int) (kj : Int × Int) : Int × Int := if dAt d kj.2.toNat = dAt d i - 1 ∧ kj.2 < s.1 then (kj.2, kj.1) else s
def sndF (lk : List (Int × Int)) (d : List Int) (i : Nat) : Int × Int := (nbs i 0 lk).foldl (sndS d i) (99, -1)
def refEl (ms : List Ms) (lk : List (Int × Int)) (i : Nat) : Vc :=
  if rootF ms (farF lk ms.length i) i = i then ownV ms i
  else ⟨msAt ms (rootF ms (farF lk ms.length i) i), dAt (farF lk ms.length (rootF ms (farF lk ms.length i) i)) i, (sndF lk (farF lk ms.length (rootF ms (farF lk ms.length i) i)) i).1, (sndF lk (farF lk ms.length (rootF ms (farF lk ms.length i) i)) i).2⟩

section
variable {ms : List Ms} {lk : List (Int × Int)} (hn : Net ms lk)
include hn
theorem far_pos {r i : Nat} (hr : r < ms.length) (hi : i < ms.length) : 0 ≤ dAt (farF lk ms.length r) i ↔ Reach lk r i := by
  rcases far_spec hn hr hi with ⟨h1, h2⟩ | ⟨e, h1, h2⟩
  · constructor
    · intro h; omega
    · intro h; exact absurd h h2
  · constructor
    · intro _; exact ⟨e, h1.1⟩
    · intro _; omega
theorem root_spec {i : Nat} (hi : i < ms.length) : ∀ k, k ≤ ms.length → (List.range k).foldl (rootS ms (farF lk ms.length i)) i < ms.length ∧ Reach lk ((List.range k).foldl (rootS ms (farF lk ms.length i)) i) i ∧
    ∀ j, (j < k ∨ j = i) → Reach lk j i → cmpM (msAt ms ((List.range k).foldl (rootS ms (farF lk ms.length i)) i)) (msAt ms j) ≤ 0 := by
  intro k
  induction k with
  | zero =>
    intro _
    refine ⟨hi, Reach.refl i, fun j hj _ => ?_⟩
    have : j = i := by omega
    subst this
    simp only [List.range_zero, List.foldl_nil, cmpM_self]; exact Int.le_refl _
  | succ k ih =>
    intro hk
    obtain ⟨h1, h2, h3⟩ := ih (by omega)
    rw [List.range_succ, List.foldl_append, List.foldl_cons, List.foldl_nil]
    generalize (List.range k).foldl (rootS ms (farF lk ms.length i)) i = r at *
    unfold rootS
    by_cases hc : 0 ≤ dAt (farF lk ms.length i) k ∧ cmpM (msAt ms k) (msAt ms r) < 0
    · rw [if_pos hc]
      have hrk := ((far_pos hn hi (show k < ms.length by omega)).1 hc.1).symm
      refine ⟨by omega, hrk, fun j hj hr => ?_⟩
      by_cases q : j = k
      · subst q; rw [cmpM_self]; exact Int.le_refl _
      · exact cmpM_trans (by omega) (h3 j (by omega) hr)
    · rw [if_neg hc]
      refine ⟨h1, h2, fun j hj hr => ?_⟩
      by_cases q : j = k
      · subst q
        have hp := (far_pos hn hi (show j < ms.length by omega)).2 hr.symm
        have : ¬ cmpM (msAt ms j) (msAt ms r) < 0 := fun h => hc ⟨hp, h⟩
        rw [cmpM_neg] at this; omega
      · exact h3 j (by omega) hr
theorem root_top {i : Nat} (hi : i < ms.length) : Top ms lk (rootF ms (farF lk ms.length i) i) i := by
  obtain ⟨h1, h2, h3⟩ := root_spec hn hi ms.length (Nat.le_refl _)
  exact ⟨h1, h2, fun q hq hr => h3 q (.inl hq) hr⟩

omit hn in
theorem snd_spec (d : List Int) (i : Nat) : ∀ (L : List (Int × Int)) (s0 : Int × Int), (∀ x ∈ L, s0.2 ≤ x.1) → L.Pairwise (fun a b => a.1 ≤ b.1) →
    (L.foldl (sndS d i) s0 = s0 ∧ ∀ x ∈ L, dAt d x.2.toNat = dAt d i - 1 → s0.1 ≤ x.2) ∨
    ∃ x ∈ L, dAt d x.2.toNat = dAt d i - 1 ∧ L.foldl (sndS d i) s0 = (x.2, x.1) ∧ x.2 < s0.1 ∧ ∀ y ∈ L, dAt d y.2.toNat = dAt d i - 1 → x.2 < y.2 ∨ x.2 = y.2 ∧ x.1 ≤ y.1 := by
  intro L
  induction L with
  | nil => intro s0 _ _; exact .inl ⟨rfl, fun x hx => (by cases hx)⟩
  | cons x L ih =>
    intro s0 h0 hp
    rw [List.pairwise_cons] at hp
    rw [List.foldl_cons]
    by_cases hc : dAt d x.2.toNat = dAt d i - 1 ∧ x.2 < s0.1
    · have hs : sndS d i s0 x = (x.2, x.1) := by rw [sndS, if_pos hc]
      rw [hs]
      right
      rcases ih (x.2, x.1) (fun y hy => hp.1 y hy) hp.2 with ⟨g1, g2⟩ | ⟨y, g1, g2, g3, g4, g5⟩
      · refine ⟨x, by simp, hc.1, g1, hc.2, fun y hy hq => ?_⟩
        cases hy with
        | head => right; exact ⟨rfl, Int.le_refl _⟩
        | tail _ hy =>
          have h1 := g2 y hy hq
          have h2 := hp.1 y hy
          simp only at h1; omega
      · simp only at g4
        refine ⟨y, List.mem_cons_of_mem _ g1, g2, g3, by omega, fun z hz hq => ?_⟩
        cases hz with
        | head => left; exact g4
        | tail _ hz => exact g5 z hz hq
    · have hs : sndS d i s0 x = s0 := by rw [sndS, if_neg hc]
      rw [hs]
      rcases ih s0 (fun y hy => h0 y (List.mem_cons_of_mem _ hy)) hp.2 with ⟨g1, g2⟩ | ⟨y, g1, g2, g3, g4, g5⟩
      · left
        refine ⟨g1, fun y hy hq => ?_⟩
        cases hy with
        | head =>
          have : ¬ x.2 < s0.1 := fun h => hc ⟨hq, h⟩
          omega
        | tail _ hy => exact g2 y hy hq
      · right
        refine ⟨y, List.mem_cons_of_mem _ g1, g2, g3, g4, fun z hz hq => ?_⟩
        cases hz with
        | head =>
          have : ¬ x.2 < s0.1 := fun h => hc ⟨hq, h⟩
          omega
        | tail _ hz => exact g5 z hz hq
omit hn in
theorem nbs_sorted (i : Int) : ∀ (r : List (Int × Int)) (k : Nat), (nbs i k r).Pairwise (fun a b => a.1 ≤ b.1) ∧ ∀ x ∈ nbs i k r, (k : Int) ≤ x.1 := by
  intro r
  induction r with
  | nil => intro k; simp [nbs]
  | cons l r ih =>
    intro k
    obtain ⟨h1, h2⟩ := ih (k + 1)
    have hb : ∀ x ∈ nb1 i k l, x.1 = (k : Int) := by
      intro x hx
      simp only [nb1, List.mem_append] at hx
      rcases hx with hx | hx
      · split at hx <;> simp at hx; subst hx; rfl
      · split at hx <;> simp at hx; subst hx; rfl
    rw [nbs]
    constructor
    · rw [List.pairwise_append]
      refine ⟨?_, h1, fun a ha b hb' => ?_⟩
      · unfold nb1; split <;> split <;> simp
      · have := hb a ha; have := h2 b hb'; omega
    · intro x hx
      rw [List.mem_append] at hx
      rcases hx with hx | hx
      · rw [hb x hx]; exact Int.le_refl _
      · have := h2 x hx; omega

theorem refEl_fin {i : Nat} (hi : i < ms.length) : Fin' ms lk i (refEl ms lk i) := by
  have ht := root_top hn hi
  unfold refEl
  generalize rootF ms (farF lk ms.length i) i = r at *
  by_cases q : r = i
  · rw [if_pos q]
    subst q
    exact ⟨r, 0, ht, ⟨rfl, fun e _ => Nat.zero_le e⟩, rfl, rfl, fun _ => ⟨rfl, rfl⟩, fun h => absurd rfl h⟩
  · rw [if_neg q]
    rcases far_spec hn ht.1 hi with ⟨_, h⟩ | ⟨d, hd, hdv⟩
    · exact absurd ht.2.1 h
    · have hd0 : d ≠ 0 := by rintro rfl; exact q hd.1
      have hmem : ∀ (k j : Nat), Adj lk k i j → ((k : Int), (j : Int)) ∈ nbs i 0 lk := by
        intro k j h
        rw [mem_nbs]
        rcases h with h | h
        · exact ⟨k, _, h, by simp, .inl ⟨rfl, rfl⟩⟩
        · exact ⟨k, _, h, by simp, .inr ⟨rfl, rfl⟩⟩
      have hqual : ∀ (j : Nat), j < ms.length → (dAt (farF lk ms.length r) (j : Int).toNat = dAt (farF lk ms.length r) i - 1 ↔ Dist lk r j (d - 1)) := by
        intro j hj
        rw [Int.toNat_natCast, hdv]
        rcases far_spec hn ht.1 hj with ⟨g1, g2⟩ | ⟨e, g1, g2⟩
        · rw [g1]
          constructor
          · intro h; omega
          · intro h; exact absurd ⟨d - 1, h.1⟩ g2
        · rw [g2]
          constructor
          · intro h; have : e = d - 1 := by omega
            rw [← this]; exact g1
          · intro h; have := h.uniq g1; omega
      have hun : ∀ x ∈ nbs i 0 lk, ∃ k j : Nat, x = ((k : Int), (j : Int)) ∧ Adj lk k i j := by
        intro x hx
        obtain ⟨k, l, g1, g2, g3⟩ := mem_nbs.1 hx
        obtain ⟨a, b, rfl, ha, hb, hab⟩ := hn.lks k l g1
        obtain ⟨x1, x2⟩ := x
        simp only [Nat.zero_add] at g2 g3
        subst g2
        rcases g3 with ⟨h1, rfl⟩ | ⟨h1, rfl⟩
        · have : a = i := by omega
          subst this; exact ⟨k, b, rfl, .inl g1⟩
        · have : b = i := by omega
          subst this; exact ⟨k, a, rfl, .inr g1⟩
      obtain ⟨hs1, hs2⟩ := nbs_sorted i lk 0
      have hlen := hn.len
      refine ⟨r, d, ht, hd, rfl, hdv, fun h => absurd h hd0, fun _ => ?_⟩
      simp only [sndF]
      obtain ⟨d', rfl⟩ : ∃ d', d = d' + 1 := ⟨d - 1, by omega⟩
      obtain ⟨k0, j0, ha0, hj0⟩ := hd.pred
      have hj0l := (adj_of hn ha0).2.1
      rcases snd_spec (farF lk ms.length r) i (nbs i 0 lk) (99, -1) (fun x hx => by have := hs2 x hx; simp only; omega) hs1 with ⟨g1, g2⟩ | ⟨x, g1, g2, g3, g4, g5⟩
      · exfalso
        have := g2 _ (hmem k0 j0 ha0) ((hqual j0 hj0l).2 hj0)
        simp only at this; omega
      · obtain ⟨k, j, rfl, ha⟩ := hun x g1
        refine ⟨k, j, by rw [g3], by rw [g3], ha, (hqual j (adj_of hn ha).2.1).1 g2, fun k' j' ha' hd' => ?_⟩
        have := g5 _ (hmem k' j' ha') ((hqual j' (adj_of hn ha').2.1).2 hd')
        simp only at this; omega
theorem refEl_eq {i : Nat} (hi : i < ms.length) : refEl ms lk i = vAt (roundsL ms lk 12 (ownL ms)) i := fin_uniq hn (refEl_fin hn hi) (elect_fin hn hi)
theorem refEl_list : (List.range ms.length).map (refEl ms lk) = roundsL ms lk 12 (ownL ms) := by
  refine vAt_ext (by rw [List.length_map, List.length_range, rounds_len (by simp [ownL])]) ?_
  intro i hi
  simp only [List.length_map, List.length_range] at hi
  rw [← refEl_eq hn hi]
  simp [vAt, List.getElem?_range hi]
end

theorem lessM_ans (a b : Ms) : ans Try.prog pol 37 [.agg [I' a.p1, I' a.cl, I' a.ac, I' a.va, I' a.p2, I' a.id], .agg [I' b.p1, I' b.cl, I' b.ac, I' b.va, I' b.p2, I' b.id]] = some (B' (decide (cmpM a b < 0))) :=
  less_ans a.p1 a.cl a.ac a.va a.p2 a.id b.p1 b.cl b.ac b.va b.p2 b.id

theorem refElect_l0 (ms : List Ms) (lk : List (Int × Int)) (hms : ms.length ≤ 12) (d : List Int) (hd : d.length = ms.length) (i : Nat) (hi : i < ms.length) (o : List Vc) (J : Inl) (n0 : Nat) (R : Xit → FEnv → Heap → Prop) (e : FEnv)
    (he : e 1 = .t (.ip [.sl false 6 (ms.map encMs), .sl false 2 (lk.map encLk)]) ∧ e 3 = .ms 0 o.length 0 o.length 9 false ∧ e 4 = .t (I' (i : Nat)) ∧ e 5 = .t (.sl false 1 (d.map I')) ∧ e 6 = .t (I' (i : Nat)) ∧ e 7 = .t (I' 0))
    (hR : ∀ e, (e 1 = .t (.ip [.sl false 6 (ms.map encMs), .sl false 2 (lk.map encLk)]) ∧ e 3 = .ms 0 o.length 0 o.length 9 false ∧ e 4 = .t (I' (i : Nat)) ∧ e 6 = .t (I' (rootF ms d i : Nat))) → R (.exit 2) e [rowG 9 encV o]) :
    wpIter 1 (some [1, 3, 4, 5, 6, 7]) (wc Try.prog pol (ans Try.prog pol) J n0 22 il22l0) R 100 e [rowG 9 encV o] := by
  refine loop_upto d.length (step := fun j r => .go (rootS ms d r j)) (fin := id)
    (St := fun j r e h => (e 1 = .t (.ip [.sl false 6 (ms.map encMs), .sl false 2 (lk.map encLk)]) ∧ e 3 = .ms 0 o.length 0 o.length 9 false ∧ e 4 = .t (I' (i : Nat)) ∧ e 5 = .t (.sl false 1 (d.map I')) ∧ e 6 = .t (I' (r : Nat)) ∧ e 7 = .t (I' (j : Nat))) ∧ r < ms.length ∧ h = [rowG 9 encV o])
    (Ex := fun r x e h => (e 1 = .t (.ip [.sl false 6 (ms.map encMs), .sl false 2 (lk.map encLk)]) ∧ e 3 = .ms 0 o.length 0 o.length 9 false ∧ e 4 = .t (I' (i : Nat)) ∧ e 6 = .t (I' (r : Nat))) ∧ x = .exit 2 ∧ h = [rowG 9 encV o]) (s := i) (by omega) ?_ ?_ (by omega) ⟨he, hi, rfl⟩ ?_
  · intro j r e h Y R hj hlt hw ⟨hs, hr, hh⟩ hk
    subst hh
    simp only [ctlK_go] at hk
    have hjm : j < ms.length := by omega
    have hg : (d.map I')[j]? = some (I' (dAt d j)) := by simp [dAt, hj]
    have hgj : (ms.map encMs)[j]? = some (encMs (msAt ms j)) := by simp [msAt, hjm]
    have hgr : (ms.map encMs)[r]? = some (encMs (msAt ms r)) := by simp [msAt, hr]
    have k1 := lessM_ans (msAt ms j) (msAt ms r)
    by_cases c1 : 0 ≤ dAt d j
    · have d1 : decide (0 ≤ dAt d j) = true := decide_eq_true c1
      by_cases c2 : cmpM (msAt ms j) (msAt ms r) < 0
      · rw [decide_eq_true c2] at k1
        have hu : rootS ms d r j = j := by rw [rootS, if_pos ⟨c1, c2⟩]
        rw [hu] at hk
        (simp only [il22l0_go, il22l0b, go_sem, reduceIte, Nat.reduceEqDiff, Nat.reduceAdd, Int.reduceEq, Nat.reduceLeDiff, Nat.reduceLT, Nat.reduceBEq, Nat.reduceMul, Nat.reduceSub, Int.reduceToNat, Int.reduceLE, Int.reduceLT, Int.reduceAdd, Int.reduceSub, Int.reduceMul, Int.reduceNeg, Int.reduceDiv, Int.reduceMod, Int.reduceTDiv, Int.reduceTMod, Int.reducePow, hs, hlt, hw, hg, hgj, hgr, encMs_cells, d1, k1, frz_rowG] <;> (repeat' ((first | with_reducible refine brG_intro (fun hc => ?_) (fun hc => ?_) | with_reducible refine brC_intro (fun hc => ?_) (fun hc => ?_) | ((with_reducible refine c_opsD ?_); have hc := @List.length_nil Nat) | ((with_reducible refine c_opsT ?_); have hc := @List.length_nil Nat) | ((with_reducible refine and_crit ?_ ?_); rfl; have hc := @List.length_nil Nat) | ((with_reducible refine crit_done ?_); rfl) | ((with_reducible refine mkC_go (fun _ => ?_)); have hc := @List.length_nil Nat) | ((with_reducible refine mkL_go (fun _ => ?_)); have hc := @List.length_nil Nat)) <;> (try simp only [Bool.not_eq_true', Bool.not_eq_false', Bool.not_true, Bool.not_false] at hc) <;> (try simp only [hc, go_sem, reduceIte, Nat.reduceEqDiff, Nat.reduceAdd, Int.reduceEq, Nat.reduceLeDiff, Nat.reduceLT, Nat.reduceBEq, Nat.reduceMul, Nat.reduceSub, Int.reduceToNat, Int.reduceLE, Int.reduceLT, Int.reduceAdd, Int.reduceSub, Int.reduceMul, Int.reduceNeg, Int.reduceDiv, Int.reduceMod, Int.reduceTDiv, Int.reduceTMod, Int.reducePow, hs, hlt, hw, hg, hgj, hgr, encMs_cells, d1, k1, frz_rowG]))))
        all_goals (refine hk _ _ ⟨?_, hjm, rfl⟩; simp only [go_sem, reduceIte, Nat.reduceEqDiff, Nat.reduceAdd, Int.reduceEq, Nat.reduceLeDiff, Nat.reduceLT, Nat.reduceBEq, Nat.reduceMul, Nat.reduceSub, Int.reduceToNat, Int.reduceLE, Int.reduceLT, Int.reduceAdd, Int.reduceSub, Int.reduceMul, Int.reduceNeg, Int.reduceDiv, Int.reduceMod, Int.reduceTDiv, Int.reduceTMod, Int.reducePow, hs, hw])
      · rw [decide_eq_false c2] at k1
        have hu : rootS ms d r j = r := by rw [rootS, if_neg (fun h => c2 h.2)]
        rw [hu] at hk
        (simp only [il22l0_go, il22l0b, go_sem, reduceIte, Nat.reduceEqDiff, Nat.reduceAdd, Int.reduceEq, Nat.reduceLeDiff, Nat.reduceLT, Nat.reduceBEq, Nat.reduceMul, Nat.reduceSub, Int.reduceToNat, Int.reduceLE, Int.reduceLT, Int.reduceAdd, Int.reduceSub, Int.reduceMul, Int.reduceNeg, Int.reduceDiv, Int.reduceMod, Int.reduceTDiv, Int.reduceTMod, Int.reducePow, hs, hlt, hw, hg, hgj, hgr, encMs_cells, d1, k1, frz_rowG] <;> (repeat' ((first | with_reducible refine brG_intro (fun hc => ?_) (fun hc => ?_) | with_reducible refine brC_intro (fun hc => ?_) (fun hc => ?_) | ((with_reducible refine c_opsD ?_); have hc := @List.length_nil Nat) | ((with_reducible refine c_opsT ?_); have hc := @List.length_nil Nat) | ((with_reducible refine and_crit ?_ ?_); rfl; have hc := @List.length_nil Nat) | ((with_reducible refine crit_done ?_); rfl) | ((with_reducible refine mkC_go (fun _ => ?_)); have hc := @List.length_nil Nat) | ((with_reducible refine mkL_go (fun _ => ?_)); have hc := @List.length_nil Nat)) <;> (try simp only [Bool.not_eq_true', Bool.not_eq_false', Bool.not_true, Bool.not_false] at hc) <;> (try simp only [hc, go_sem, reduceIte, Nat.reduceEqDiff, Nat.reduceAdd, Int.reduceEq, Nat.reduceLeDiff, Nat.reduceLT, Nat.reduceBEq, Nat.reduceMul, Nat.reduceSub, Int.reduceToNat, Int.reduceLE, Int.reduceLT, Int.reduceAdd, Int.reduceSub, Int.reduceMul, Int.reduceNeg, Int.reduceDiv, Int.reduceMod, Int.reduceTDiv, Int.reduceTMod, Int.reducePow, hs, hlt, hw, hg, hgj, hgr, encMs_cells, d1, k1, frz_rowG]))))
        all_goals (refine hk _ _ ⟨?_, hr, rfl⟩; simp only [go_sem, reduceIte, Nat.reduceEqDiff, Nat.reduceAdd, Int.reduceEq, Nat.reduceLeDiff, Nat.reduceLT, Nat.reduceBEq, Nat.reduceMul, Nat.reduceSub, Int.reduceToNat, Int.reduceLE, Int.reduceLT, Int.reduceAdd, Int.reduceSub, Int.reduceMul, Int.reduceNeg, Int.reduceDiv, Int.reduceMod, Int.reduceTDiv, Int.reduceTMod, Int.reducePow, hs, hw])
    · have d1 : decide (0 ≤ dAt d j) = false := decide_eq_false c1
      have hu : rootS ms d r j = r := by rw [rootS, if_neg (fun h => c1 h.1)]
      rw [hu] at hk
      (simp only [il22l0_go, il22l0b, go_sem, reduceIte, Nat.reduceEqDiff, Nat.reduceAdd, Int.reduceEq, Nat.reduceLeDiff, Nat.reduceLT, Nat.reduceBEq, Nat.reduceMul, Nat.reduceSub, Int.reduceToNat, Int.reduceLE, Int.reduceLT, Int.reduceAdd, Int.reduceSub, Int.reduceMul, Int.reduceNeg, Int.reduceDiv, Int.reduceMod, Int.reduceTDiv, Int.reduceTMod, Int.reducePow, hs, hlt, hw, hg, d1, frz_rowG] <;> (repeat' ((first | with_reducible refine brG_intro (fun hc => ?_) (fun hc => ?_) | with_reducible refine brC_intro (fun hc => ?_) (fun hc => ?_) | ((with_reducible refine c_opsD ?_); have hc := @List.length_nil Nat) | ((with_reducible refine c_opsT ?_); have hc := @List.length_nil Nat) | ((with_reducible refine and_crit ?_ ?_); rfl; have hc := @List.length_nil Nat) | ((with_reducible refine crit_done ?_); rfl) | ((with_reducible refine mkC_go (fun _ => ?_)); have hc := @List.length_nil Nat) | ((with_reducible refine mkL_go (fun _ => ?_)); have hc := @List.length_nil Nat)) <;> (try simp only [Bool.not_eq_true', Bool.not_eq_false', Bool.not_true, Bool.not_false] at hc) <;> (try simp only [hc, go_sem, reduceIte, Nat.reduceEqDiff, Nat.reduceAdd, Int.reduceEq, Nat.reduceLeDiff, Nat.reduceLT, Nat.reduceBEq, Nat.reduceMul, Nat.reduceSub, Int.reduceToNat, Int.reduceLE, Int.reduceLT, Int.reduceAdd, Int.reduceSub, Int.reduceMul, Int.reduceNeg, Int.reduceDiv, Int.reduceMod, Int.reduceTDiv, Int.reduceTMod, Int.reducePow, hs, hlt, hw, hg, d1, frz_rowG]))))
      all_goals (refine hk _ _ ⟨?_, hr, rfl⟩; simp only [go_sem, reduceIte, Nat.reduceEqDiff, Nat.reduceAdd, Int.reduceEq, Nat.reduceLeDiff, Nat.reduceLT, Nat.reduceBEq, Nat.reduceMul, Nat.reduceSub, Int.reduceToNat, Int.reduceLE, Int.reduceLT, Int.reduceAdd, Int.reduceSub, Int.reduceMul, Int.reduceNeg, Int.reduceDiv, Int.reduceMod, Int.reduceTDiv, Int.reduceTMod, Int.reducePow, hs, hw])
  · intro r e h Y R hlt ⟨hs, hr, hh⟩ hk
    subst hh
    (simp only [il22l0_go, il22l0b, go_sem, reduceIte, Nat.reduceEqDiff, Nat.reduceAdd, Int.reduceEq, Nat.reduceLeDiff, Nat.reduceLT, Nat.reduceBEq, Nat.reduceMul, Nat.reduceSub, Int.reduceToNat, Int.reduceLE, Int.reduceLT, Int.reduceAdd, Int.reduceSub, Int.reduceMul, Int.reduceNeg, Int.reduceDiv, Int.reduceMod, Int.reduceTDiv, Int.reduceTMod, Int.reducePow, hs, hlt, frz_rowG] <;> (repeat' ((first | with_reducible refine brG_intro (fun hc => ?_) (fun hc => ?_) | with_reducible refine brC_intro (fun hc => ?_) (fun hc => ?_) | ((with_reducible refine c_opsD ?_); have hc := @List.length_nil Nat) | ((with_reducible refine c_opsT ?_); have hc := @List.length_nil Nat) | ((with_reducible refine and_crit ?_ ?_); rfl; have hc := @List.length_nil Nat) | ((with_reducible refine crit_done ?_); rfl) | ((with_reducible refine mkC_go (fun _ => ?_)); have hc := @List.length_nil Nat) | ((with_reducible refine mkL_go (fun _ => ?_)); have hc := @List.length_nil Nat)) <;> (try simp only [Bool.not_eq_true', Bool.not_eq_false', Bool.not_true, Bool.not_false] at hc) <;> (try simp only [hc, go_sem, reduceIte, Nat.reduceEqDiff, Nat.reduceAdd, Int.reduceEq, Nat.reduceLeDiff, Nat.reduceLT, Nat.reduceBEq, Nat.reduceMul, Nat.reduceSub, Int.reduceToNat, Int.reduceLE, Int.reduceLT, Int.reduceAdd, Int.reduceSub, Int.reduceMul, Int.reduceNeg, Int.reduceDiv, Int.reduceMod, Int.reduceTDiv, Int.reduceTMod, Int.reducePow, hs, hlt, frz_rowG]))))
    all_goals (refine hk _ _ _ ⟨?_, rfl, rfl⟩; simp only [go_sem, reduceIte, Nat.reduceEqDiff, Nat.reduceAdd, Int.reduceEq, Nat.reduceLeDiff, Nat.reduceLT, Nat.reduceBEq, Nat.reduceMul, Nat.reduceSub, Int.reduceToNat, Int.reduceLE, Int.reduceLT, Int.reduceAdd, Int.reduceSub, Int.reduceMul, Int.reduceNeg, Int.reduceDiv, Int.reduceMod, Int.reduceTDiv, Int.reduceTMod, Int.reducePow, hs, id])
  · intro x e h ⟨h1, h2, h3⟩
    have hf : ∀ (k j : Nat) (r : Nat), foldC (ρ := Nat) (fun j (_ : Unit) r => Ctl.go (rootS ms d r j)) id j (List.replicate k ()) r = (List.range' j k).foldl (rootS ms d) r := by
      intro k
      induction k with
      | zero => intro j r; simp [foldC]
      | succ k ih => intro j r; rw [List.replicate_succ, foldC_go (s' := rootS ms d r j) rfl, ih, List.range'_succ]; rfl
    rw [hf, ← List.range_eq_range', hd] at h1
    subst h2 h3
    exact hR _ h1

theorem refElect_l1 (ms : List Ms) (lk : List (Int × Int)) (hlk : lk.length ≤ 24) (hn : Net ms lk) (d : List Int) (hd : d.length = ms.length) (hdb : ∀ x ∈ d, -1 ≤ x ∧ x ≤ 100) (i : Nat) (hi : i < ms.length) (o : List Vc) (M : Ms) (st : Int) (J : Inl) (n0 : Nat) (R : Xit → FEnv → Heap → Prop) (e : FEnv)
    (he : e 1 = .t (.ip [.sl false 6 (ms.map encMs), .sl false 2 (lk.map encLk)]) ∧ e 3 = .ms 0 o.length 0 o.length 9 false ∧ e 4 = .t (I' (i : Nat)) ∧ e 8 = .t (.sl false 1 (d.map I')) ∧ e 9 = .ref 1 1 0 0 ∧ e 10 = .t (I' 0))
    (hR : ∀ e, (e 1 = .t (.ip [.sl false 6 (ms.map encMs), .sl false 2 (lk.map encLk)]) ∧ e 3 = .ms 0 o.length 0 o.length 9 false ∧ e 4 = .t (I' (i : Nat)) ∧ e 9 = .ref 1 1 0 0) → R (.exit 4) e [rowG 9 encV o, .row 9 [.t (vcT ⟨M, st, (sndF lk d i).1, (sndF lk d i).2⟩)] 1]) :
    wpIter 2 (some [1, 3, 4, 8, 9, 10]) (wc Try.prog pol (ans Try.prog pol) J n0 22 il22l1) R 100 e [rowG 9 encV o, .row 9 [.t (vcT ⟨M, st, 99, -1⟩)] 1] := by
  refine loop_range lk encLk (step := fun k l s => .go ((nb1 (i : Nat) k l).foldl (sndS d i) s)) (fin := id)
    (St := fun k s e h => (e 1 = .t (.ip [.sl false 6 (ms.map encMs), .sl false 2 (lk.map encLk)]) ∧ e 3 = .ms 0 o.length 0 o.length 9 false ∧ e 4 = .t (I' (i : Nat)) ∧ e 8 = .t (.sl false 1 (d.map I')) ∧ e 9 = .ref 1 1 0 0 ∧ e 10 = .t (I' (k : Nat))) ∧ h = [rowG 9 encV o, .row 9 [.t (vcT ⟨M, st, s.1, s.2⟩)] 1])
    (Ex := fun s x e h => (e 1 = .t (.ip [.sl false 6 (ms.map encMs), .sl false 2 (lk.map encLk)]) ∧ e 3 = .ms 0 o.length 0 o.length 9 false ∧ e 4 = .t (I' (i : Nat)) ∧ e 9 = .ref 1 1 0 0) ∧ x = .exit 4 ∧ h = [rowG 9 encV o, .row 9 [.t (vcT ⟨M, st, s.1, s.2⟩)] 1]) (s := ((99 : Int), (-1 : Int))) (by omega) ?_ ?_ (by omega) ⟨he, rfl⟩ ?_
  · intro k l s e h Y R hm hk' hx hget hlt hw ⟨hs, hh⟩ hk
    subst hh
    simp only [ctlK_go] at hk
    obtain ⟨a, b, rfl, ha, hb, hab⟩ := hn.lks k l hx
    have c1 := other_ans ((a : Int), (b : Int)) (i : Nat)
    simp only at c1
    have gt : ∀ (j : Nat), j < ms.length → (d.map I')[j]? = some (I' (dAt d j)) := by
      intro j hj; simp [dAt, hd, hj]
    have db : ∀ (j : Nat), j < ms.length → -1 ≤ dAt d j ∧ dAt d j ≤ 100 := by
      intro j hj
      refine hdb _ (List.mem_of_getElem? (i := j) ?_)
      simp [dAt, hd, hj]
    have hgi := gt i hi
    have hbi := db i hi
    have v1 : IntKind.i64.wrap (dAt d i - 1) = dAt d i - 1 := wrap_i64 (by omega) (by omega)
    obtain ⟨sn, ln⟩ := s
    have key : ∀ (j : Nat), j < ms.length → (∀ e h, (e 1 = .t (.ip [.sl false 6 (ms.map encMs), .sl false 2 (lk.map encLk)]) ∧ e 3 = .ms 0 o.length 0 o.length 9 false ∧ e 4 = .t (I' (i : Nat)) ∧ e 8 = .t (.sl false 1 (d.map I')) ∧ e 9 = .ref 1 1 0 0 ∧ e 10 = .t (I' (k + 1 : Nat))) ∧ h = [rowG 9 encV o, .row 9 [.t (vcT ⟨M, st, (sndS d i (sn, ln) ((k : Int), (j : Int))).1, (sndS d i (sn, ln) ((k : Int), (j : Int))).2⟩)] 1] → Y e h) →
        ans Try.prog pol 41 [.agg [I' (a : Int), I' (b : Int)], I' (i : Nat)] = some (.tup [I' (j : Int), B' true]) →
        wc Try.prog pol (ans Try.prog pol) J n0 22 il22l1 (itK 2 Y R) (tidyF (some [1, 3, 4, 8, 9, 10]) e) [rowG 9 encV o, .row 9 [.t (vcT ⟨M, st, sn, ln⟩)] 1] := by
      intro j hj hk c1
      have hgj := gt j hj
      simp only [sndS, Int.toNat_natCast] at hk
      by_cases q1 : dAt d j = dAt d i - 1
      · have d1 : decide (dAt d j = dAt d i - 1) = true := decide_eq_true q1
        by_cases q2 : (j : Int) < sn
        · have d2 : decide ((j : Int) < sn) = true := decide_eq_true q2
          rw [if_pos ⟨q1, q2⟩] at hk
          (simp only [il22l1_go, il22l1b, go_sem, reduceIte, Nat.reduceEqDiff, Nat.reduceAdd, Int.reduceEq, Nat.reduceLeDiff, Nat.reduceLT, Nat.reduceBEq, Nat.reduceMul, Nat.reduceSub, Int.reduceToNat, Int.reduceLE, Int.reduceLT, Int.reduceAdd, Int.reduceSub, Int.reduceMul, Int.reduceNeg, Int.reduceDiv, Int.reduceMod, Int.reduceTDiv, Int.reduceTMod, Int.reducePow, hs, hget, hlt, hw, encLk_cells, c1, hgi, hgj, v1, d1, d2, frz_rowG] <;> (repeat' ((first | with_reducible refine brG_intro (fun hc => ?_) (fun hc => ?_) | with_reducible refine brC_intro (fun hc => ?_) (fun hc => ?_) | ((with_reducible refine c_opsD ?_); have hc := @List.length_nil Nat) | ((with_reducible refine c_opsT ?_); have hc := @List.length_nil Nat) | ((with_reducible refine and_crit ?_ ?_); rfl; have hc := @List.length_nil Nat) | ((with_reducible refine crit_done ?_); rfl) | ((with_reducible refine mkC_go (fun _ => ?_)); have hc := @List.length_nil Nat) | ((with_reducible refine mkL_go (fun _ => ?_)); have hc := @List.length_nil Nat)) <;> (try simp only [Bool.not_eq_true', Bool.not_eq_false', Bool.not_true, Bool.not_false] at hc) <;> (try simp only [hc, go_sem, reduceIte, Nat.reduceEqDiff, Nat.reduceAdd, Int.reduceEq, Nat.reduceLeDiff, Nat.reduceLT, Nat.reduceBEq, Nat.reduceMul, Nat.reduceSub, Int.reduceToNat, Int.reduceLE, Int.reduceLT, Int.reduceAdd, Int.reduceSub, Int.reduceMul, Int.reduceNeg, Int.reduceDiv, Int.reduceMod, Int.reduceTDiv, Int.reduceTMod, Int.reducePow, hs, hget, hlt, hw, encLk_cells, c1, hgi, hgj, v1, d1, d2, frz_rowG]))))
          all_goals (refine hk _ _ ⟨?_, rfl⟩; simp only [go_sem, reduceIte, Nat.reduceEqDiff, Nat.reduceAdd, Int.reduceEq, Nat.reduceLeDiff, Nat.reduceLT, Nat.reduceBEq, Nat.reduceMul, Nat.reduceSub, Int.reduceToNat, Int.reduceLE, Int.reduceLT, Int.reduceAdd, Int.reduceSub, Int.reduceMul, Int.reduceNeg, Int.reduceDiv, Int.reduceMod, Int.reduceTDiv, Int.reduceTMod, Int.reducePow, hs, hw])
        · have d2 : decide ((j : Int) < sn) = false := decide_eq_false q2
          rw [if_neg (fun h => q2 h.2)] at hk
          (simp only [il22l1_go, il22l1b, go_sem, reduceIte, Nat.reduceEqDiff, Nat.reduceAdd, Int.reduceEq, Nat.reduceLeDiff, Nat.reduceLT, Nat.reduceBEq, Nat.reduceMul, Nat.reduceSub, Int.reduceToNat, Int.reduceLE, Int.reduceLT, Int.reduceAdd, Int.reduceSub, Int.reduceMul, Int.reduceNeg, Int.reduceDiv, Int.reduceMod, Int.reduceTDiv, Int.reduceTMod, Int.reducePow, hs, hget, hlt, hw, encLk_cells, c1, hgi, hgj, v1, d1, d2, frz_rowG] <;> (repeat' ((first | with_reducible refine brG_intro (fun hc => ?_) (fun hc => ?_) | with_reducible refine brC_intro (fun hc => ?_) (fun hc => ?_) | ((with_reducible refine c_opsD ?_); have hc := @List.length_nil Nat) | ((with_reducible refine c_opsT ?_); have hc := @List.length_nil Nat) | ((with_reducible refine and_crit ?_ ?_); rfl; have hc := @List.length_nil Nat) | ((with_reducible refine crit_done ?_); rfl) | ((with_reducible refine mkC_go (fun _ => ?_)); have hc := @List.length_nil Nat) | ((with_reducible refine mkL_go (fun _ => ?_)); have hc := @List.length_nil Nat)) <;> (try simp only [Bool.not_eq_true', Bool.not_eq_false', Bool.not_true, Bool.not_false] at hc) <;> (try simp only [hc, go_sem, reduceIte, Nat.reduceEqDiff, Nat.reduceAdd, Int.reduceEq, Nat.reduceLeDiff, Nat.reduceLT, Nat.reduceBEq, Nat.reduceMul, Nat.reduceSub, Int.reduceToNat, Int.reduceLE, Int.reduceLT, Int.reduceAdd, Int.reduceSub, Int.reduceMul, Int.reduceNeg, Int.reduceDiv, Int.reduceMod, Int.reduceTDiv, Int.reduceTMod, Int.reducePow, hs, hget, hlt, hw, encLk_cells, c1, hgi, hgj, v1, d1, d2, frz_rowG]))))
          all_goals (refine hk _ _ ⟨?_, rfl⟩; simp only [go_sem, reduceIte, Nat.reduceEqDiff, Nat.reduceAdd, Int.reduceEq, Nat.reduceLeDiff, Nat.reduceLT, Nat.reduceBEq, Nat.reduceMul, Nat.reduceSub, Int.reduceToNat, Int.reduceLE, Int.reduceLT, Int.reduceAdd, Int.reduceSub, Int.reduceMul, Int.reduceNeg, Int.reduceDiv, Int.reduceMod, Int.reduceTDiv, Int.reduceTMod, Int.reducePow, hs, hw])
      · have d1 : decide (dAt d j = dAt d i - 1) = false := decide_eq_false q1
        rw [if_neg (fun h => q1 h.1)] at hk
        (simp only [il22l1_go, il22l1b, go_sem, reduceIte, Nat.reduceEqDiff, Nat.reduceAdd, Int.reduceEq, Nat.reduceLeDiff, Nat.reduceLT, Nat.reduceBEq, Nat.reduceMul, Nat.reduceSub, Int.reduceToNat, Int.reduceLE, Int.reduceLT, Int.reduceAdd, Int.reduceSub, Int.reduceMul, Int.reduceNeg, Int.reduceDiv, Int.reduceMod, Int.reduceTDiv, Int.reduceTMod, Int.reducePow, hs, hget, hlt, hw, encLk_cells, c1, hgi, hgj, v1, d1, frz_rowG] <;> (repeat' ((first | with_reducible refine brG_intro (fun hc => ?_) (fun hc => ?_) | with_reducible refine brC_intro (fun hc => ?_) (fun hc => ?_) | ((with_reducible refine c_opsD ?_); have hc := @List.length_nil Nat) | ((with_reducible refine c_opsT ?_); have hc := @List.length_nil Nat) | ((with_reducible refine and_crit ?_ ?_); rfl; have hc := @List.length_nil Nat) | ((with_reducible refine crit_done ?_); rfl) | ((with_reducible refine mkC_go (fun _ => ?_)); have hc := @List.length_nil Nat) | ((with_reducible refine mkL_go (fun _ => ?_)); have hc := @List.length_nil Nat)) <;> (try simp only [Bool.not_eq_true', Bool.not_eq_false', Bool.not_true, Bool.not_false] at hc) <;> (try simp only [hc, go_sem, reduceIte, Nat.reduceEqDiff, Nat.reduceAdd, Int.reduceEq, Nat.reduceLeDiff, Nat.reduceLT, Nat.reduceBEq, Nat.reduceMul, Nat.reduceSub, Int.reduceToNat, Int.reduceLE, Int.reduceLT, Int.reduceAdd, Int.reduceSub, Int.reduceMul, Int.reduceNeg, Int.reduceDiv, Int.reduceMod, Int.reduceTDiv, Int.reduceTMod, Int.reducePow, hs, hget, hlt, hw, encLk_cells, c1, hgi, hgj, v1, d1, frz_rowG]))))
        all_goals (refine hk _ _ ⟨?_, rfl⟩; simp only [go_sem, reduceIte, Nat.reduceEqDiff, Nat.reduceAdd, Int.reduceEq, Nat.reduceLeDiff, Nat.reduceLT, Nat.reduceBEq, Nat.reduceMul, Nat.reduceSub, Int.reduceToNat, Int.reduceLE, Int.reduceLT, Int.reduceAdd, Int.reduceSub, Int.reduceMul, Int.reduceNeg, Int.reduceDiv, Int.reduceMod, Int.reduceTDiv, Int.reduceTMod, Int.reducePow, hs, hw])
    by_cases q : (a : Int) = (i : Int)
    · have q2 : ¬ (b : Int) = (i : Int) := by omega
      rw [if_pos q, if_pos q] at c1
      refine key b hb ?_ c1
      simp only [nb1, if_pos q, if_neg q2, List.append_nil, List.foldl_cons, List.foldl_nil] at hk
      exact hk
    · rw [if_neg q, if_neg q] at c1
      by_cases q2 : (b : Int) = (i : Int)
      · rw [decide_eq_true q2] at c1
        refine key a ha ?_ c1
        simp only [nb1, if_neg q, if_pos q2, List.nil_append, List.foldl_cons, List.foldl_nil] at hk
        exact hk
      · rw [decide_eq_false q2] at c1
        simp only [nb1, if_neg q, if_neg q2, List.append_nil, List.foldl_nil] at hk
        (simp only [il22l1_go, il22l1b, go_sem, reduceIte, Nat.reduceEqDiff, Nat.reduceAdd, Int.reduceEq, Nat.reduceLeDiff, Nat.reduceLT, Nat.reduceBEq, Nat.reduceMul, Nat.reduceSub, Int.reduceToNat, Int.reduceLE, Int.reduceLT, Int.reduceAdd, Int.reduceSub, Int.reduceMul, Int.reduceNeg, Int.reduceDiv, Int.reduceMod, Int.reduceTDiv, Int.reduceTMod, Int.reducePow, hs, hget, hlt, hw, encLk_cells, c1, frz_rowG] <;> (repeat' ((first | with_reducible refine brG_intro (fun hc => ?_) (fun hc => ?_) | with_reducible refine brC_intro (fun hc => ?_) (fun hc => ?_) | ((with_reducible refine c_opsD ?_); have hc := @List.length_nil Nat) | ((with_reducible refine c_opsT ?_); have hc := @List.length_nil Nat) | ((with_reducible refine and_crit ?_ ?_); rfl; have hc := @List.length_nil Nat) | ((with_reducible refine crit_done ?_); rfl) | ((with_reducible refine mkC_go (fun _ => ?_)); have hc := @List.length_nil Nat) | ((with_reducible refine mkL_go (fun _ => ?_)); have hc := @List.length_nil Nat)) <;> (try simp only [Bool.not_eq_true', Bool.not_eq_false', Bool.not_true, Bool.not_false] at hc) <;> (try simp only [hc, go_sem, reduceIte, Nat.reduceEqDiff, Nat.reduceAdd, Int.reduceEq, Nat.reduceLeDiff, Nat.reduceLT, Nat.reduceBEq, Nat.reduceMul, Nat.reduceSub, Int.reduceToNat, Int.reduceLE, Int.reduceLT, Int.reduceAdd, Int.reduceSub, Int.reduceMul, Int.reduceNeg, Int.reduceDiv, Int.reduceMod, Int.reduceTDiv, Int.reduceTMod, Int.reducePow, hs, hget, hlt, hw, encLk_cells, c1, frz_rowG]))))
        all_goals (refine hk _ _ ⟨?_, rfl⟩; simp only [go_sem, reduceIte, Nat.reduceEqDiff, Nat.reduceAdd, Int.reduceEq, Nat.reduceLeDiff, Nat.reduceLT, Nat.reduceBEq, Nat.reduceMul, Nat.reduceSub, Int.reduceToNat, Int.reduceLE, Int.reduceLT, Int.reduceAdd, Int.reduceSub, Int.reduceMul, Int.reduceNeg, Int.reduceDiv, Int.reduceMod, Int.reduceTDiv, Int.reduceTMod, Int.reducePow, hs, hw])
  · intro s e h Y R hlt ⟨hs, hh⟩ hk
    subst hh
    (simp only [il22l1_go, il22l1b, go_sem, reduceIte, Nat.reduceEqDiff, Nat.reduceAdd, Int.reduceEq, Nat.reduceLeDiff, Nat.reduceLT, Nat.reduceBEq, Nat.reduceMul, Nat.reduceSub, Int.reduceToNat, Int.reduceLE, Int.reduceLT, Int.reduceAdd, Int.reduceSub, Int.reduceMul, Int.reduceNeg, Int.reduceDiv, Int.reduceMod, Int.reduceTDiv, Int.reduceTMod, Int.reducePow, hs, hlt, frz_rowG] <;> (repeat' ((first | with_reducible refine brG_intro (fun hc => ?_) (fun hc => ?_) | with_reducible refine brC_intro (fun hc => ?_) (fun hc => ?_) | ((with_reducible refine c_opsD ?_); have hc := @List.length_nil Nat) | ((with_reducible refine c_opsT ?_); have hc := @List.length_nil Nat) | ((with_reducible refine and_crit ?_ ?_); rfl; have hc := @List.length_nil Nat) | ((with_reducible refine crit_done ?_); rfl) | ((with_reducible refine mkC_go (fun _ => ?_)); have hc := @List.length_nil Nat) | ((with_reducible refine mkL_go (fun _ => ?_)); have hc := @List.length_nil Nat)) <;> (try simp only [Bool.not_eq_true', Bool.not_eq_false', Bool.not_true, Bool.not_false] at hc) <;> (try simp only [hc, go_sem, reduceIte, Nat.reduceEqDiff, Nat.reduceAdd, Int.reduceEq, Nat.reduceLeDiff, Nat.reduceLT, Nat.reduceBEq, Nat.reduceMul, Nat.reduceSub, Int.reduceToNat, Int.reduceLE, Int.reduceLT, Int.reduceAdd, Int.reduceSub, Int.reduceMul, Int.reduceNeg, Int.reduceDiv, Int.reduceMod, Int.reduceTDiv, Int.reduceTMod, Int.reducePow, hs, hlt, frz_rowG]))))
    all_goals (refine hk _ _ _ ⟨?_, rfl, rfl⟩; simp only [go_sem, reduceIte, Nat.reduceEqDiff, Nat.reduceAdd, Int.reduceEq, Nat.reduceLeDiff, Nat.reduceLT, Nat.reduceBEq, Nat.reduceMul, Nat.reduceSub, Int.reduceToNat, Int.reduceLE, Int.reduceLT, Int.reduceAdd, Int.reduceSub, Int.reduceMul, Int.reduceNeg, Int.reduceDiv, Int.reduceMod, Int.reduceTDiv, Int.reduceTMod, Int.reducePow, hs, id])
  · intro x e h ⟨h1, h2, h3⟩
    have hf : ∀ (r : List (Int × Int)) (k : Nat) (s : Int × Int), foldC (ρ := Int × Int) (fun k l s => Ctl.go ((nb1 (i : Nat) k l).foldl (sndS d i) s)) id k r s = (nbs (i : Nat) k r).foldl (sndS d i) s := by
      intro r
      induction r with
      | nil => intro k s; rfl
      | cons l r ih => intro k s; rw [foldC_go (s' := (nb1 (i : Nat) k l).foldl (sndS d i) s) rfl, ih, nbs, List.foldl_append]
    rw [hf] at h3
    subst h2 h3
    exact hR _ h1

theorem far_bound {ms : List Ms} {lk : List (Int × Int)} (hn : Net ms lk) {r : Nat} (hr : r < ms.length) : ∀ x ∈ farF lk ms.length r, -1 ≤ x ∧ x ≤ 100 := by
  intro x hx
  obtain ⟨i, hi⟩ := List.mem_iff_getElem?.1 hx
  have hil := (List.getElem?_eq_some_iff.1 hi).1
  rw [far_len hn hr] at hil
  have hxe : dAt (farF lk ms.length r) i = x := by simp [dAt, hi]
  have hlen := hn.len
  rcases far_spec hn hr hil with ⟨h1, _⟩ | ⟨e, h1, h2⟩
  · omega
  · have := Dist.lt hn h1 hr; omega

theorem refElect_ans (ms : List Ms) (lk : List (Int × Int)) (h1 : okS ms lk = true) : ans Try.prog pol 22 [spT ms lk] = some (.sl false 9 ((roundsL ms lk 12 (ownL ms)).map encV)) := by
  obtain ⟨hl1, hl2⟩ := okS_len h1
  have hn := net_of h1
  rw [← refEl_list hn]
  refine ans_go 100 1 il22_eq (Nat.le_of_ble_eq_true rfl) ?_
  (simp only [il22c, go_sem, reduceIte, Nat.reduceEqDiff, Nat.reduceAdd, Int.reduceEq, Nat.reduceLeDiff, Nat.reduceLT, Nat.reduceBEq, Nat.reduceMul, Nat.reduceSub, Int.reduceToNat, Int.reduceLE, Int.reduceLT, Int.reduceAdd, Int.reduceSub, Int.reduceMul, Int.reduceNeg, Int.reduceDiv, Int.reduceMod, Int.reduceTDiv, Int.reduceTMod, Int.reducePow] <;> (repeat' ((first | with_reducible refine brG_intro (fun hc => ?_) (fun hc => ?_) | with_reducible refine brC_intro (fun hc => ?_) (fun hc => ?_) | ((with_reducible refine c_opsD ?_); have hc := @List.length_nil Nat) | ((with_reducible refine c_opsT ?_); have hc := @List.length_nil Nat) | ((with_reducible refine and_crit ?_ ?_); rfl; have hc := @List.length_nil Nat) | ((with_reducible refine crit_done ?_); rfl) | ((with_reducible refine mkC_go (fun _ => ?_)); have hc := @List.length_nil Nat) | ((with_reducible refine mkL_go (fun _ => ?_)); have hc := @List.length_nil Nat)) <;> (try simp only [Bool.not_eq_true', Bool.not_eq_false', Bool.not_true, Bool.not_false] at hc) <;> (try simp only [hc, go_sem, reduceIte, Nat.reduceEqDiff, Nat.reduceAdd, Int.reduceEq, Nat.reduceLeDiff, Nat.reduceLT, Nat.reduceBEq, Nat.reduceMul, Nat.reduceSub, Int.reduceToNat, Int.reduceLE, Int.reduceLT, Int.reduceAdd, Int.reduceSub, Int.reduceMul, Int.reduceNeg, Int.reduceDiv, Int.reduceMod, Int.reduceTDiv, Int.reduceTMod, Int.reducePow]))))
  refine loop_upto ms.length (step := fun i o => .go (o ++ [refEl ms lk i])) (fin := id)
    (St := fun i o e h => (e 1 = .t (.ip [.sl false 6 (ms.map encMs), .sl false 2 (lk.map encLk)]) ∧ e 3 = .ms 0 o.length 0 o.length 9 false ∧ e 4 = .t (I' (i : Nat))) ∧ o.length = i ∧ h = [rowG 9 encV o])
    (Ex := fun o x e h => e 3 = .ms 0 o.length 0 o.length 9 false ∧ x = .exit 0 ∧ h = [rowG 9 encV o]) (s := []) (by omega) ?_ ?_ (by omega) ?_ ?_
  · intro i o e h Y R hi hlt hw ⟨hs, hol, hh⟩ hk
    subst hh
    simp only [ctlK_go] at hk
    have hroom : (o.length + 1) * 72 ≤ roomB := ap_room (by omega) (by omega)
    have c1 := far_ans ms lk i h1 hi
    have c2 := refOwn_ans ms lk i hi
    have ht := root_top hn hi
    (simp only [il22l2_go, il22l2b, go_sem, reduceIte, Nat.reduceEqDiff, Nat.reduceAdd, Int.reduceEq, Nat.reduceLeDiff, Nat.reduceLT, Nat.reduceBEq, Nat.reduceMul, Nat.reduceSub, Int.reduceToNat, Int.reduceLE, Int.reduceLT, Int.reduceAdd, Int.reduceSub, Int.reduceMul, Int.reduceNeg, Int.reduceDiv, Int.reduceMod, Int.reduceTDiv, Int.reduceTMod, Int.reducePow, hs, hlt, c1, frz_rowG] <;> (repeat' ((first | with_reducible refine brG_intro (fun hc => ?_) (fun hc => ?_) | with_reducible refine brC_intro (fun hc => ?_) (fun hc => ?_) | ((with_reducible refine c_opsD ?_); have hc := @List.length_nil Nat) | ((with_reducible refine c_opsT ?_); have hc := @List.length_nil Nat) | ((with_reducible refine and_crit ?_ ?_); rfl; have hc := @List.length_nil Nat) | ((with_reducible refine crit_done ?_); rfl) | ((with_reducible refine mkC_go (fun _ => ?_)); have hc := @List.length_nil Nat) | ((with_reducible refine mkL_go (fun _ => ?_)); have hc := @List.length_nil Nat)) <;> (try simp only [Bool.not_eq_true', Bool.not_eq_false', Bool.not_true, Bool.not_false] at hc) <;> (try simp only [hc, go_sem, reduceIte, Nat.reduceEqDiff, Nat.reduceAdd, Int.reduceEq, Nat.reduceLeDiff, Nat.reduceLT, Nat.reduceBEq, Nat.reduceMul, Nat.reduceSub, Int.reduceToNat, Int.reduceLE, Int.reduceLT, Int.reduceAdd, Int.reduceSub, Int.reduceMul, Int.reduceNeg, Int.reduceDiv, Int.reduceMod, Int.reduceTDiv, Int.reduceTMod, Int.reducePow, hs, hlt, c1, frz_rowG]))))
    refine refElect_l0 ms lk hl1.2 (farF lk ms.length i) (far_len hn hi) i hi o _ _ _ _ (by simp only [go_sem, reduceIte, Nat.reduceEqDiff, Nat.reduceAdd, Int.reduceEq, Nat.reduceLeDiff, Nat.reduceLT, Nat.reduceBEq, Nat.reduceMul, Nat.reduceSub, Int.reduceToNat, Int.reduceLE, Int.reduceLT, Int.reduceAdd, Int.reduceSub, Int.reduceMul, Int.reduceNeg, Int.reduceDiv, Int.reduceMod, Int.reduceTDiv, Int.reduceTMod, Int.reducePow, hs]) ?_
    intro e he
    unfold refEl at hk
    generalize rootF ms (farF lk ms.length i) i = r at *
    have c3 := far_ans ms lk r h1 ht.1
    by_cases q : r = i
    · have d1 : decide ((r : Int) = (i : Int)) = true := decide_eq_true (by omega)
      rw [if_pos q] at hk
      generalize ownV ms i = b at *
      (simp only [il22l2_go, il22l2b, go_sem, reduceIte, Nat.reduceEqDiff, Nat.reduceAdd, Int.reduceEq, Nat.reduceLeDiff, Nat.reduceLT, Nat.reduceBEq, Nat.reduceMul, Nat.reduceSub, Int.reduceToNat, Int.reduceLE, Int.reduceLT, Int.reduceAdd, Int.reduceSub, Int.reduceMul, Int.reduceNeg, Int.reduceDiv, Int.reduceMod, Int.reduceTDiv, Int.reduceTMod, Int.reducePow, he, hw, d1, c2, hroom, rowG_is, rowG_es, rowG_mr, frz_rowG] <;> (repeat' ((first | with_reducible refine brG_intro (fun hc => ?_) (fun hc => ?_) | with_reducible refine brC_intro (fun hc => ?_) (fun hc => ?_) | ((with_reducible refine c_opsD ?_); have hc := @List.length_nil Nat) | ((with_reducible refine c_opsT ?_); have hc := @List.length_nil Nat) | ((with_reducible refine and_crit ?_ ?_); rfl; have hc := @List.length_nil Nat) | ((with_reducible refine crit_done ?_); rfl) | ((with_reducible refine mkC_go (fun _ => ?_)); have hc := @List.length_nil Nat) | ((with_reducible refine mkL_go (fun _ => ?_)); have hc := @List.length_nil Nat)) <;> (try simp only [Bool.not_eq_true', Bool.not_eq_false', Bool.not_true, Bool.not_false] at hc) <;> (try simp only [hc, go_sem, reduceIte, Nat.reduceEqDiff, Nat.reduceAdd, Int.reduceEq, Nat.reduceLeDiff, Nat.reduceLT, Nat.reduceBEq, Nat.reduceMul, Nat.reduceSub, Int.reduceToNat, Int.reduceLE, Int.reduceLT, Int.reduceAdd, Int.reduceSub, Int.reduceMul, Int.reduceNeg, Int.reduceDiv, Int.reduceMod, Int.reduceTDiv, Int.reduceTMod, Int.reducePow, he, hw, d1, c2, hroom, rowG_is, rowG_es, rowG_mr, frz_rowG]))))
      all_goals (refine hk _ _ ⟨?_, by simp [hol], ?_⟩ <;> (try simp only [go_sem, reduceIte, Nat.reduceEqDiff, Nat.reduceAdd, Int.reduceEq, Nat.reduceLeDiff, Nat.reduceLT, Nat.reduceBEq, Nat.reduceMul, Nat.reduceSub, Int.reduceToNat, Int.reduceLE, Int.reduceLT, Int.reduceAdd, Int.reduceSub, Int.reduceMul, Int.reduceNeg, Int.reduceDiv, Int.reduceMod, Int.reduceTDiv, Int.reduceTMod, Int.reducePow, he, hw]) <;> simp [rowG, encV])
    · have d1 : decide ((r : Int) = (i : Int)) = false := decide_eq_false (by omega)
      rw [if_neg q] at hk
      have hgr : (ms.map encMs)[r]? = some (encMs (msAt ms r)) := by simp [msAt, ht.1]
      have hgi : ((farF lk ms.length r).map I')[i]? = some (I' (dAt (farF lk ms.length r) i)) := by simp [dAt, far_len hn ht.1, hi]
      (simp only [il22l2_go, il22l2b, go_sem, reduceIte, Nat.reduceEqDiff, Nat.reduceAdd, Int.reduceEq, Nat.reduceLeDiff, Nat.reduceLT, Nat.reduceBEq, Nat.reduceMul, Nat.reduceSub, Int.reduceToNat, Int.reduceLE, Int.reduceLT, Int.reduceAdd, Int.reduceSub, Int.reduceMul, Int.reduceNeg, Int.reduceDiv, Int.reduceMod, Int.reduceTDiv, Int.reduceTMod, Int.reducePow, he, d1, c3, hgr, hgi, encMs_cells, frz_rowG] <;> (repeat' ((first | with_reducible refine brG_intro (fun hc => ?_) (fun hc => ?_) | with_reducible refine brC_intro (fun hc => ?_) (fun hc => ?_) | ((with_reducible refine c_opsD ?_); have hc := @List.length_nil Nat) | ((with_reducible refine c_opsT ?_); have hc := @List.length_nil Nat) | ((with_reducible refine and_crit ?_ ?_); rfl; have hc := @List.length_nil Nat) | ((with_reducible refine crit_done ?_); rfl) | ((with_reducible refine mkC_go (fun _ => ?_)); have hc := @List.length_nil Nat) | ((with_reducible refine mkL_go (fun _ => ?_)); have hc := @List.length_nil Nat)) <;> (try simp only [Bool.not_eq_true', Bool.not_eq_false', Bool.not_true, Bool.not_false] at hc) <;> (try simp only [hc, go_sem, reduceIte, Nat.reduceEqDiff, Nat.reduceAdd, Int.reduceEq, Nat.reduceLeDiff, Nat.reduceLT, Nat.reduceBEq, Nat.reduceMul, Nat.reduceSub, Int.reduceToNat, Int.reduceLE, Int.reduceLT, Int.reduceAdd, Int.reduceSub, Int.reduceMul, Int.reduceNeg, Int.reduceDiv, Int.reduceMod, Int.reduceTDiv, Int.reduceTMod, Int.reducePow, he, d1, c3, hgr, hgi, encMs_cells, frz_rowG]))))
      refine refElect_l1 ms lk hl2 hn (farF lk ms.length r) (far_len hn ht.1) (far_bound hn ht.1) i hi o (msAt ms r) (dAt (farF lk ms.length r) i) _ _ _ _ (by simp only [go_sem, reduceIte, Nat.reduceEqDiff, Nat.reduceAdd, Int.reduceEq, Nat.reduceLeDiff, Nat.reduceLT, Nat.reduceBEq, Nat.reduceMul, Nat.reduceSub, Int.reduceToNat, Int.reduceLE, Int.reduceLT, Int.reduceAdd, Int.reduceSub, Int.reduceMul, Int.reduceNeg, Int.reduceDiv, Int.reduceMod, Int.reduceTDiv, Int.reduceTMod, Int.reducePow, he]) ?_
      intro e he
      generalize (sndF lk (farF lk ms.length r) i).1 = s1 at *
      generalize (sndF lk (farF lk ms.length r) i).2 = s2 at *
      generalize dAt (farF lk ms.length r) i = s3 at *
      generalize msAt ms r = M at *
      (simp only [il22l2_go, il22l2b, go_sem, reduceIte, Nat.reduceEqDiff, Nat.reduceAdd, Int.reduceEq, Nat.reduceLeDiff, Nat.reduceLT, Nat.reduceBEq, Nat.reduceMul, Nat.reduceSub, Int.reduceToNat, Int.reduceLE, Int.reduceLT, Int.reduceAdd, Int.reduceSub, Int.reduceMul, Int.reduceNeg, Int.reduceDiv, Int.reduceMod, Int.reduceTDiv, Int.reduceTMod, Int.reducePow, he, hw, hroom, rowG_is, rowG_es, rowG_mr, frz_rowG] <;> (repeat' ((first | with_reducible refine brG_intro (fun hc => ?_) (fun hc => ?_) | with_reducible refine brC_intro (fun hc => ?_) (fun hc => ?_) | ((with_reducible refine c_opsD ?_); have hc := @List.length_nil Nat) | ((with_reducible refine c_opsT ?_); have hc := @List.length_nil Nat) | ((with_reducible refine and_crit ?_ ?_); rfl; have hc := @List.length_nil Nat) | ((with_reducible refine crit_done ?_); rfl) | ((with_reducible refine mkC_go (fun _ => ?_)); have hc := @List.length_nil Nat) | ((with_reducible refine mkL_go (fun _ => ?_)); have hc := @List.length_nil Nat)) <;> (try simp only [Bool.not_eq_true', Bool.not_eq_false', Bool.not_true, Bool.not_false] at hc) <;> (try simp only [hc, go_sem, reduceIte, Nat.reduceEqDiff, Nat.reduceAdd, Int.reduceEq, Nat.reduceLeDiff, Nat.reduceLT, Nat.reduceBEq, Nat.reduceMul, Nat.reduceSub, Int.reduceToNat, Int.reduceLE, Int.reduceLT, Int.reduceAdd, Int.reduceSub, Int.reduceMul, Int.reduceNeg, Int.reduceDiv, Int.reduceMod, Int.reduceTDiv, Int.reduceTMod, Int.reducePow, he, hw, hroom, rowG_is, rowG_es, rowG_mr, frz_rowG]))))
      all_goals (refine hk _ _ ⟨?_, by simp [hol], ?_⟩ <;> (try simp only [go_sem, reduceIte, Nat.reduceEqDiff, Nat.reduceAdd, Int.reduceEq, Nat.reduceLeDiff, Nat.reduceLT, Nat.reduceBEq, Nat.reduceMul, Nat.reduceSub, Int.reduceToNat, Int.reduceLE, Int.reduceLT, Int.reduceAdd, Int.reduceSub, Int.reduceMul, Int.reduceNeg, Int.reduceDiv, Int.reduceMod, Int.reduceTDiv, Int.reduceTMod, Int.reducePow, he, hw]) <;> simp [rowG, encV])
  · intro o e h Y R hlt ⟨hs, hol, hh⟩ hk
    subst hh
    (simp only [il22l2_go, il22l2b, go_sem, reduceIte, Nat.reduceEqDiff, Nat.reduceAdd, Int.reduceEq, Nat.reduceLeDiff, Nat.reduceLT, Nat.reduceBEq, Nat.reduceMul, Nat.reduceSub, Int.reduceToNat, Int.reduceLE, Int.reduceLT, Int.reduceAdd, Int.reduceSub, Int.reduceMul, Int.reduceNeg, Int.reduceDiv, Int.reduceMod, Int.reduceTDiv, Int.reduceTMod, Int.reducePow, hs, hlt] <;> (repeat' ((first | with_reducible refine brG_intro (fun hc => ?_) (fun hc => ?_) | with_reducible refine brC_intro (fun hc => ?_) (fun hc => ?_) | ((with_reducible refine c_opsD ?_); have hc := @List.length_nil Nat) | ((with_reducible refine c_opsT ?_); have hc := @List.length_nil Nat) | ((with_reducible refine and_crit ?_ ?_); rfl; have hc := @List.length_nil Nat) | ((with_reducible refine crit_done ?_); rfl) | ((with_reducible refine mkC_go (fun _ => ?_)); have hc := @List.length_nil Nat) | ((with_reducible refine mkL_go (fun _ => ?_)); have hc := @List.length_nil Nat)) <;> (try simp only [Bool.not_eq_true', Bool.not_eq_false', Bool.not_true, Bool.not_false] at hc) <;> (try simp only [hc, go_sem, reduceIte, Nat.reduceEqDiff, Nat.reduceAdd, Int.reduceEq, Nat.reduceLeDiff, Nat.reduceLT, Nat.reduceBEq, Nat.reduceMul, Nat.reduceSub, Int.reduceToNat, Int.reduceLE, Int.reduceLT, Int.reduceAdd, Int.reduceSub, Int.reduceMul, Int.reduceNeg, Int.reduceDiv, Int.reduceMod, Int.reduceTDiv, Int.reduceTMod, Int.reducePow, hs, hlt]))))
    all_goals (refine hk _ _ _ ⟨?_, rfl, rfl⟩; simp only [go_sem, reduceIte, Nat.reduceEqDiff, Nat.reduceAdd, Int.reduceEq, Nat.reduceLeDiff, Nat.reduceLT, Nat.reduceBEq, Nat.reduceMul, Nat.reduceSub, Int.reduceToNat, Int.reduceLE, Int.reduceLT, Int.reduceAdd, Int.reduceSub, Int.reduceMul, Int.reduceNeg, Int.reduceDiv, Int.reduceMod, Int.reduceTDiv, Int.reduceTMod, Int.reducePow, hs, id])
  · simp only [go_sem, reduceIte, Nat.reduceEqDiff, Nat.reduceAdd, Int.reduceEq, Nat.reduceLeDiff, Nat.reduceLT, Nat.reduceBEq, Nat.reduceMul, Nat.reduceSub, Int.reduceToNat, Int.reduceLE, Int.reduceLT, Int.reduceAdd, Int.reduceSub, Int.reduceMul, Int.reduceNeg, Int.reduceDiv, Int.reduceMod, Int.reduceTDiv, Int.reduceTMod, Int.reducePow, rowG_nil encV]
  · intro x e h ⟨g1, g2, g3⟩
    have hf : ∀ (k i : Nat) (o : List Vc), foldC (ρ := List Vc) (fun i (_ : Unit) o => Ctl.go (o ++ [refEl ms lk i])) id i (List.replicate k ()) o = o ++ (List.range' i k).map (refEl ms lk) := by
      intro k
      induction k with
      | zero => intro i o; simp [foldC]
      | succ k ih => intro i o; rw [List.replicate_succ, foldC_go (s' := o ++ [refEl ms lk i]) rfl, ih, List.range'_succ]; simp
    rw [hf, List.nil_append, ← List.range_eq_range'] at g1 g3
    subst g2 g3
    generalize (List.range ms.length).map (refEl ms lk) = q at *
    (simp only [il22c, go_sem, reduceIte, Nat.reduceEqDiff, Nat.reduceAdd, Int.reduceEq, Nat.reduceLeDiff, Nat.reduceLT, Nat.reduceBEq, Nat.reduceMul, Nat.reduceSub, Int.reduceToNat, Int.reduceLE, Int.reduceLT, Int.reduceAdd, Int.reduceSub, Int.reduceMul, Int.reduceNeg, Int.reduceDiv, Int.reduceMod, Int.reduceTDiv, Int.reduceTMod, Int.reducePow, g1, rowG_is, rowG_es, rowG_mr] <;> (repeat' ((first | with_reducible refine brG_intro (fun hc => ?_) (fun hc => ?_) | with_reducible refine brC_intro (fun hc => ?_) (fun hc => ?_) | ((with_reducible refine c_opsD ?_); have hc := @List.length_nil Nat) | ((with_reducible refine c_opsT ?_); have hc := @List.length_nil Nat) | ((with_reducible refine and_crit ?_ ?_); rfl; have hc := @List.length_nil Nat) | ((with_reducible refine crit_done ?_); rfl) | ((with_reducible refine mkC_go (fun _ => ?_)); have hc := @List.length_nil Nat) | ((with_reducible refine mkL_go (fun _ => ?_)); have hc := @List.length_nil Nat)) <;> (try simp only [Bool.not_eq_true', Bool.not_eq_false', Bool.not_true, Bool.not_false] at hc) <;> (try simp only [hc, go_sem, reduceIte, Nat.reduceEqDiff, Nat.reduceAdd, Int.reduceEq, Nat.reduceLeDiff, Nat.reduceLT, Nat.reduceBEq, Nat.reduceMul, Nat.reduceSub, Int.reduceToNat, Int.reduceLE, Int.reduceLT, Int.reduceAdd, Int.reduceSub, Int.reduceMul, Int.reduceNeg, Int.reduceDiv, Int.reduceMod, Int.reduceTDiv, Int.reduceTMod, Int.reducePow, g1, rowG_is, rowG_es, rowG_mr]))))

end Go.Proofs.Ytboknhdkadcaeaa
