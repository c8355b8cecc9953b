/- Elected vectors are valid; which end of a link is the master. -/
import Derived.Test.YtboknhdkadcaeaaElL
import Derived.Test.YtboknhdkadcaeaaElM
namespace Go.Proofs.Ytboknhdkadcaeaa
open Go Go.Abs
set_option linter.unusedSimpArgs false
set_option linter.unusedVariables false
set_option maxRecDepth 100000
set_option maxHeartbeats 4000000

theorem msAt_ok {ms : List Ms} {lk : List (Int × Int)} (hok : okS ms lk = true) {i : Nat} (hi : i < ms.length) : okM (msAt ms i) := by
  obtain ⟨x, hx⟩ : ∃ x, ms[i]? = some x := ⟨ms[i], by simp⟩
  rw [okS, Bool.and_eq_true, Bool.and_eq_true] at hok
  have hg := foldC_pos hok.2.1 i x hx
  rw [Nat.zero_add, goodM, Bool.and_eq_true] at hg
  simp only [msAt, hx, Option.getD_some]
  exact of_decide_eq_true hg.1
theorem ownV_ok {ms : List Ms} {lk : List (Int × Int)} (hok : okS ms lk = true) {i : Nat} (hi : i < ms.length) : okV (ownV ms i) := by
  have := (okS_len hok).1
  refine ⟨msAt_ok hok hi, ?_⟩
  simp only [ownV]; omega
theorem okVs_round {ms : List Ms} {lk : List (Int × Int)} (hok : okS ms lk = true) {W : List Vc} (hW : okVs ms.length W = true) : okVs ms.length (roundL ms lk W) = true := by
  obtain ⟨g1, g2⟩ := okVs_st hW
  have hn := net_of hok
  obtain ⟨hl1, hl2⟩ := okS_len hok
  rw [okVs, roundL_len, decide_eq_true rfl, Bool.true_and, List.all_eq_true]
  intro w hw
  obtain ⟨i, hi, rfl⟩ := vAt_mem hw
  rw [roundL_len] at hi
  rw [roundL_at hi]
  refine decide_eq_true ?_
  obtain ⟨h1, _, _⟩ := bestAt_spec hn g1 i
  rcases h1 with h1 | ⟨k, j, ha, hj, h1⟩
  · rw [h1]; exact ownV_ok hok hi
  · obtain ⟨a1, a2, a3⟩ := adj_of hn ha
    have := g2 _ (vAt_in (i := j) (by omega))
    have hk : k < lk.length := by
      rcases ha with ha | ha <;> exact (List.getElem?_eq_some_iff.1 ha).1
    rw [h1]
    simp only [okV] at this ⊢
    refine ⟨this.1, ?_⟩
    omega
theorem okVs_elect {ms : List Ms} {lk : List (Int × Int)} (hok : okS ms lk = true) : ∀ t, okVs ms.length (roundsL ms lk t (ownL ms)) = true := by
  intro t
  induction t with
  | zero =>
    rw [roundsL, okVs, Bool.and_eq_true, List.all_eq_true]
    refine ⟨decide_eq_true (by simp [ownL]), fun w hw => decide_eq_true ?_⟩
    simp only [ownL, List.mem_map, List.mem_range] at hw
    obtain ⟨i, hi, rfl⟩ := hw
    exact ownV_ok hok hi
  | succ t ih => exact okVs_round hok ih

theorem nbs_app (i : Int) : ∀ (a b : List (Int × Int)) (k : Nat), nbs i k (a ++ b) = nbs i k a ++ nbs i (k + a.length) b := by
  intro a
  induction a with
  | nil => intro b k; simp [nbs]
  | cons x a ih => intro b k; simp only [List.cons_append, nbs, ih, List.append_assoc, List.length_cons]; rw [show k + 1 + a.length = k + (a.length + 1) by omega]
def cnt (lk : List (Int × Int)) (i k : Nat) : Nat := (nbs i 0 (lk.take k)).length
theorem nbs_split {lk : List (Int × Int)} {k : Nat} {l : Int × Int} (h : lk[k]? = some l) (i : Int) : nbs i 0 lk = nbs i 0 (lk.take k) ++ (nb1 i k l ++ nbs i (k + 1) (lk.drop (k + 1))) := by
  obtain ⟨hk, h⟩ := List.getElem?_eq_some_iff.1 h
  have hd : lk.drop k = l :: lk.drop (k + 1) := by rw [← h]; exact List.drop_eq_getElem_cons hk
  have e : lk = lk.take k ++ (l :: lk.drop (k + 1)) := by rw [← hd, List.take_append_drop]
  have hl : (lk.take k).length = k := by simp; omega
  conv => lhs; rw [e]
  rw [nbs_app, nbs, hl, Nat.zero_add]
theorem cnt_succ {lk : List (Int × Int)} {k : Nat} {l : Int × Int} (h : lk[k]? = some l) (i : Nat) : cnt lk i (k + 1) = cnt lk i k + (nb1 i k l).length := by
  obtain ⟨hk, hg⟩ := List.getElem?_eq_some_iff.1 h
  have e : lk.take (k + 1) = lk.take k ++ [l] := by rw [List.take_add_one, h]; rfl
  have hl : (lk.take k).length = k := by simp; omega
  rw [cnt, cnt, e, nbs_app, hl, List.length_append]
  simp [nbs]
theorem cnt_le (lk : List (Int × Int)) (i : Nat) : ∀ k, cnt lk i k ≤ 2 * k := by
  intro k
  have key : ∀ (r : List (Int × Int)) (k0 : Nat), (nbs i k0 r).length ≤ 2 * r.length := by
    intro r
    induction r with
    | nil => intro k0; simp [nbs]
    | cons l r ih =>
      intro k0
      have := ih (k0 + 1)
      have h1 : (nb1 i k0 l).length ≤ 2 := by unfold nb1; split <;> split <;> simp
      simp only [nbs, List.length_append, List.length_cons]; omega
  have := key (lk.take k) 0
  simp only [List.length_take] at this
  unfold cnt; omega
theorem role_at {lk : List (Int × Int)} {k : Nat} {l : Int × Int} (h : lk[k]? = some l) (v : List Vc) (i : Nat) {j : Int} (hj : nb1 i k l = [((k : Int), j)]) : ((rolesL lk v i).map I')[cnt lk i k]? = some (I' (roleOf v i ((k : Int), j))) ∧ cnt lk i k < (rolesL lk v i).length := by
  have h1 := nbs_split h i
  rw [hj] at h1
  constructor
  · rw [rolesL, h1, cnt]; simp
  · rw [rolesL, h1, cnt]; simp

/-- Node i is the master end (w = 2) or has its slave port (w = 1) at link j. -/
def hasR (lk : List (Int × Int)) (v : List Vc) (w : Int) (i j : Nat) : Bool := match lk[j]? with
  | some l => (nb1 i j l).any fun kj => decide (roleOf v i kj = w)
  | none => false

section
variable {ms : List Ms} {lk : List (Int × Int)} (hn : Net ms lk) {v : List Vc} (hf : ∀ i, i < ms.length → Fin' ms lk i (vAt v i))
include hn hf

/-- The end of a link that comes first is its master, the other one is not. -/
theorem role_lt {j a b : Nat} (ha : a < ms.length) (hb : b < ms.length) (hab : Adj lk j a b) (hlt : cmpV (plc v a) (plc v b) < 0) : roleOf v a ((j : Int), b) = 2 ∧ roleOf v b ((j : Int), a) ≠ 2 := by
  constructor
  · rw [roleOf, if_neg, if_pos hlt]
    intro hln
    obtain ⟨r, d, h1, h2, h3, h4, h5, h6⟩ := hf a ha
    by_cases hd : d = 0
    · have := (h5 hd).2; rw [hln] at this; simp at this
    · obtain ⟨k, s, g1, g2, g3, g4, _⟩ := h6 hd
      simp only at hln
      have hk : k = j := by omega
      subst hk
      have hsb : s = b := by
        rcases g3 with g3 | g3 <;> rcases hab with hab | hab <;> rw [g3] at hab <;> simp only [Option.some.injEq, Prod.mk.injEq] at hab <;> omega
      subst hsb
      obtain ⟨q, d', g1', g2', g3', g4', _⟩ := hf s hb
      have htb : Top ms lk r s := top_of_reach h1 ⟨1, ⟨a, k, hab, rfl⟩⟩
      obtain rfl := top_uniq hn htb g1'
      have hdd := g4.uniq g2'
      have h7 : cmpV (plc v (s : Int)) (plc v (a : Int)) ≤ 0 := by
        rw [cmpV_le]
        right
        simp only [plc, Int.toNat_natCast, h3, h4, g3', g4', true_and]
        left; omega
      rw [cmpV_neg] at h7; omega
  · rw [roleOf]
    rw [cmpV_neg] at hlt
    split
    · omega
    · rw [if_neg (by simp only; omega)]; omega
omit hf in
theorem hasR_link {j a b : Nat} (hl : lk[j]? = some ((a : Int), (b : Int))) (w : Int) (i : Nat) : hasR lk v w i j = (decide (i = a) && decide (roleOf v a ((j : Int), b) = w) || decide (i = b) && decide (roleOf v b ((j : Int), a) = w)) := by
  obtain ⟨a', b', h1, h2, h3, h4⟩ := hn.lks j _ hl
  simp only [Prod.mk.injEq] at h1
  have hab : a ≠ b := by omega
  simp only [hasR, hl, nb1]
  by_cases q1 : i = a
  · subst q1
    have q2 : ¬ ((b : Int) = (i : Int)) := by omega
    have q3 : ¬ i = b := hab
    simp [q2, q3]
  · by_cases q2 : i = b
    · subst q2
      have q3 : ¬ ((a : Int) = (i : Int)) := by omega
      simp [q3, q1]
    · have q3 : ¬ ((a : Int) = (i : Int)) := by omega
      have q4 : ¬ ((b : Int) = (i : Int)) := by omega
      simp [q1, q2, q3, q4]
/-- Exactly one node is the master of a link. -/
theorem one_master {j : Nat} (hj : j < lk.length) : ((List.range ms.length).filter fun i => hasR lk v 2 i j).length = 1 := by
  obtain ⟨l, hl⟩ : ∃ l, lk[j]? = some l := ⟨lk[j], by simp⟩
  obtain ⟨a, b, rfl, ha, hb, hab⟩ := hn.lks j l hl
  have one : ∀ (c n : Nat) (p : Nat → Bool), c < n → (∀ i, p i = decide (i = c)) → ((List.range n).filter p).length = 1 := by
    intro c n p hc hp
    have : ∀ n, ((List.range n).filter p).length = if c < n then 1 else 0 := by
      intro n
      induction n with
      | zero => simp
      | succ n ih =>
        rw [List.range_succ, List.filter_append, List.length_append, ih]
        simp only [List.filter_cons, List.filter_nil, hp]
        by_cases h : n = c
        · subst h; simp
        · have : decide (n = c) = false := decide_eq_false h
          simp only [this, Bool.false_eq_true, if_false, List.length_nil, Nat.add_zero]
          by_cases h2 : c < n
          · rw [if_pos h2, if_pos (by omega)]
          · rw [if_neg h2, if_neg (by omega)]
    rw [this, if_pos hc]
  have hne : cmpV (plc v a) (plc v b) ≠ 0 := by
    intro h
    have := cmpV_zero.1 h
    simp only [plc, Vc.mk.injEq] at this
    omega
  by_cases hlt : cmpV (plc v a) (plc v b) < 0
  · obtain ⟨r1, r2⟩ := role_lt hn hf ha hb (.inl hl) hlt
    refine one a ms.length _ ha fun i => ?_
    rw [hasR_link hn hl, decide_eq_true r1, decide_eq_false r2, Bool.and_false, Bool.or_false, Bool.and_true]
  · have hlt' : cmpV (plc v b) (plc v a) < 0 := by rw [cmpV_neg]; omega
    obtain ⟨r1, r2⟩ := role_lt hn hf hb ha (.inr hl) hlt'
    refine one b ms.length _ hb fun i => ?_
    rw [hasR_link hn hl, decide_eq_true r1, decide_eq_false r2, Bool.and_false, Bool.false_or, Bool.and_true]
def slvN (lk : List (Int × Int)) (v : List Vc) (i k : Nat) : Nat := ((List.range k).filter fun j => hasR lk v 1 i j).length
omit hn hf in
theorem role_one (v : List Vc) (i : Nat) (kj : Int × Int) : roleOf v i kj = 1 ↔ (vAt v i).ln = kj.1 := by
  rw [roleOf]
  split
  · rename_i h; simp [h]
  · rename_i h
    simp only [h, iff_false]
    split <;> omega
/-- A node that is no grandmaster has one slave port. -/
theorem one_slave {i : Nat} (hi : i < ms.length) : ((slvN lk v i lk.length : Nat) : Int) = if (1 : Int) < (vAt v i).st then 1 else (vAt v i).st := by
  obtain ⟨r, d, h1, h2, h3, h4, h5, h6⟩ := hf i hi
  have hh : ∀ j, j < lk.length → hasR lk v 1 i j = true → (vAt v i).ln = (j : Nat) := by
    intro j hj hr
    obtain ⟨l, hl⟩ : ∃ l, lk[j]? = some l := ⟨lk[j], by simp⟩
    obtain ⟨a, b, rfl, ha, hb, hab⟩ := hn.lks j l hl
    rw [hasR_link hn hl] at hr
    simp only [Bool.or_eq_true, Bool.and_eq_true, decide_eq_true_eq, role_one] at hr
    rcases hr with ⟨rfl, hr⟩ | ⟨rfl, hr⟩ <;> exact hr
  have cf : ∀ n, n ≤ lk.length → ∀ c, (∀ j, j < n → (hasR lk v 1 i j = true ↔ j = c)) → ((List.range n).filter fun j => hasR lk v 1 i j).length = if c < n then 1 else 0 := by
    intro n
    induction n with
    | zero => intro _ c _; simp
    | succ n ih =>
      intro hn' c hc
      rw [List.range_succ, List.filter_append, List.length_append, ih (by omega) c (fun j hj => hc j (by omega))]
      simp only [List.filter_cons, List.filter_nil]
      have h0 := hc n (by omega)
      by_cases h : n = c
      · have h1 : hasR lk v 1 i n = true := h0.2 h
        rw [if_pos h1, if_neg (by omega), if_pos (by omega)]; rfl
      · have h1 : ¬ hasR lk v 1 i n = true := fun q => h (h0.1 q)
        rw [if_neg h1]
        by_cases h2 : c < n
        · rw [if_pos h2, if_pos (by omega)]; rfl
        · rw [if_neg h2, if_neg (by omega)]; rfl
  by_cases hd : d = 0
  · have hln := (h5 hd).2
    have : slvN lk v i lk.length = 0 := by
      rw [slvN, cf lk.length (Nat.le_refl _) lk.length, if_neg (by omega)]
      intro j hj
      constructor
      · intro h; have := hh j hj h; omega
      · intro h; omega
    rw [this, h4, hd]; rfl
  · obtain ⟨k, s, g1, g2, g3, _⟩ := h6 hd
    have hkl : k < lk.length := by rcases g3 with h | h <;> exact (List.getElem?_eq_some_iff.1 h).1
    have : slvN lk v i lk.length = 1 := by
      rw [slvN, cf lk.length (Nat.le_refl _) k, if_pos hkl]
      intro j hj
      constructor
      · intro h; have := hh j hj h; omega
      · rintro rfl
        obtain ⟨a1, a2, a3⟩ := adj_of hn g3
        rcases g3 with g3 | g3
        · rw [hasR_link hn g3, decide_eq_true rfl, Bool.true_and, decide_eq_true ((role_one v i _).2 g2)]; rfl
        · rw [hasR_link hn g3, decide_eq_true (rfl : i = i), Bool.true_and, decide_eq_true ((role_one v i _).2 g2), Bool.or_true]
    rw [this, h4]
    split <;> omega
end

end Go.Proofs.Ytboknhdkadcaeaa
