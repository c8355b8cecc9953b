/- The law RecoverOnce: a frame is accepted if and only if it is within the history and has not been accepted before. -/
import Derived.Test.YtkamfflnfnjbeaaRecF
import Derived.Test.YtkamfflnfnjbeaaAbsMap
namespace Go.Proofs.Ytkamfflnfnjbeaa
open Go Go.Abs
set_option linter.unusedSimpArgs false
set_option linter.unusedVariables false
set_option maxRecDepth 100000
set_option maxHeartbeats 2000000

structure OS where
  r : Rc
  m : List (Int × Bool)
  last : Int
  at_ : Int

/-- What is known of the state behind i moves. -/
structure OInv (n : Int) (i : Nat) (s : OS) : Prop where
  len : s.r.len = n
  rst : s.r.reset = 40000
  ok : okR s.r
  at0 : s.r.at_ = s.at_
  atb : 0 ≤ s.at_ ∧ s.at_ ≤ 32767 * (i : Int)
  lab : -2147483648 - 32767 * (i : Int) ≤ s.last ∧ s.last ≤ 2147483648 + 32767 * (i : Int)
  any : s.r.any = decide (i = 0)
  laz : 0 < i → s.r.last = s.last % 65536
  bit : 0 < i → ∀ j : Nat, (j : Int) < n → s.r.seen.testBit j = (mget s.m (s.last - j)).isSome
  old : 0 < i → ∀ f, (mget s.m f).isSome = true → f ≤ s.last
  tru : ∀ f b, mget s.m f = some b → b = true
  emp : i = 0 → s.m = []

def frm (s : OS) (x : Int × Int) : Int := s.last + (if x.1 < -32767 then -32767 else x.1)
def tim (s : OS) (x : Int × Int) : Int := s.at_ + (if x.2 < 0 then 0 else x.2)
/-- One move. -/
def stO (i : Nat) (s : OS) (x : Int × Int) : OS :=
  if (acc s.r (frm s x % 65536) (tim s x)).2 = true then ⟨(acc s.r (frm s x % 65536) (tim s x)).1, mput s.m (frm s x) true, if 0 < frm s x - s.last ∨ i = 0 then frm s x else s.last, tim s x⟩
  else s
def want (n : Int) (i : Nat) (s : OS) (x : Int × Int) : Bool := decide (i = 0) || ((decide (-n < frm s x - s.last) && decide (frm s x - s.last < n)) && !(mget s.m (frm s x)).isSome)

theorem stO_inv {n : Int} (hn : 1 ≤ n ∧ n ≤ 64) {i : Nat} {s : OS} {x : Int × Int} (h : OInv n i s) (hi : i < 200) (hx : (-32768 ≤ x.1 ∧ x.1 < 32768) ∧ -32768 ≤ x.2 ∧ x.2 < 32768) :
    argR s.r (frm s x % 65536) (tim s x) ∧ (acc s.r (frm s x % 65536) (tim s x)).2 = want n i s x ∧ ((acc s.r (frm s x % 65536) (tim s x)).2 = false → (acc s.r (frm s x % 65536) (tim s x)).1 = s.r) ∧ OInv n (i + 1) (stO i s x) := by
  obtain ⟨h1, h2, h3, h4, h5, h6, h7, h8, h9, h10, h11, h12⟩ := h
  have hargs : argR s.r (frm s x % 65536) (tim s x) := by
    refine ⟨by omega, ?_, ?_⟩
    · unfold tim; split <;> omega
    · rw [h4]; unfold tim; split <;> omega
  have hok' := acc_ok h3 hargs
  have hfr : frm s x - s.last = (if x.1 < -32767 then -32767 else x.1) := by unfold frm; omega
  have hd : -32767 ≤ frm s x - s.last ∧ frm s x - s.last ≤ 32767 := by rw [hfr]; split <;> omega
  have ht : s.at_ ≤ tim s x ∧ tim s x ≤ s.at_ + 32767 := by unfold tim; split <;> omega
  unfold stO want
  generalize frm s x = f at *
  generalize tim s x = t at *
  refine ⟨hargs, ?_⟩
  by_cases hi0 : i = 0
  · subst hi0
    have hany : s.r.any = true := by rw [h7]; rfl
    have hm := h12 rfl
    have e : acc s.r (f % 65536) t = (⟨s.r.len, s.r.reset, false, f % 65536, t, 1⟩, true) := by rw [acc, if_pos (.inl hany)]
    rw [e] at hok' ⊢
    refine ⟨rfl, fun h => (by simp at h), ?_⟩
    simp only [if_true, or_true, hm]
    refine ⟨h1, h2, hok', rfl, ?_, ?_, rfl, fun _ => rfl, ?_, ?_, ?_, fun h => by omega⟩
    · show 0 ≤ t ∧ t ≤ _; omega
    · show _ ≤ f ∧ f ≤ _; omega
    · intro _ j hj
      show Nat.testBit 1 j = (mget (mput [] f true) (f - j)).isSome
      rw [mput, mget, mget]
      cases j with
      | zero => simp
      | succ j => rw [if_neg (by omega), Nat.testBit_succ]; simp
    · intro _ f' hf
      show f' ≤ f
      simp only [mput, mget] at hf
      split at hf
      · omega
      · simp at hf
    · intro f' b hf
      simp only [mput, mget] at hf
      split at hf
      · simpa using hf.symm
      · simp at hf
  · have hany : s.r.any = false := by rw [h7]; simpa using hi0
    have hla := h8 (by omega)
    have q1 : ¬ (s.r.any = true ∨ s.r.reset < t - s.r.at_) := by
      rw [hany, h2, h4]; simp only [Bool.false_eq_true, false_or]; omega
    have hdl : dl s.r.last (f % 65536) = f - s.last := by rw [hla]; unfold dl; omega
    have keep : OInv n (i + 1) s := ⟨h1, h2, h3, h4, by omega, by omega, by rw [hany]; simp, fun _ => hla, fun _ => h9 (by omega), fun _ => h10 (by omega), h11, fun h => by omega⟩
    have hi1 : decide (i = 0) = false := decide_eq_false hi0
    by_cases q2 : -n < f - s.last ∧ f - s.last < n
    · have hq : (decide (-n < f - s.last) && decide (f - s.last < n)) = true := by simp [q2]
      rw [hi1, hq]
      by_cases q3 : f - s.last ≤ 0
      · obtain ⟨k, hk⟩ : ∃ k : Nat, f - s.last = -(k : Int) := ⟨(-(f - s.last)).toNat, by omega⟩
        have hk' : (-(f - s.last)).toNat = k := by omega
        have hb := h9 (by omega) k (by omega)
        have hfk : s.last - (k : Int) = f := by omega
        rw [hfk] at hb
        cases hbit : s.r.seen.testBit k with
        | true =>
          have e : acc s.r (f % 65536) t = (s.r, false) := by rw [acc, if_neg q1, hdl, h1, if_neg (by simpa using q2), if_pos q3, hk', if_pos hbit]
          rw [e, ← hb, hbit]
          exact ⟨rfl, fun _ => rfl, by simpa using keep⟩
        | false =>
          have e : acc s.r (f % 65536) t = (⟨s.r.len, s.r.reset, s.r.any, s.r.last, t, s.r.seen ||| 2 ^ k⟩, true) := by rw [acc, if_neg q1, hdl, h1, if_neg (by simpa using q2), if_pos q3, hk', if_neg (by simp [hbit])]
          rw [e] at hok' ⊢
          rw [← hb, hbit]
          refine ⟨rfl, fun h => (by simp at h), ?_⟩
          simp only [if_true]
          rw [if_neg (by omega)]
          refine ⟨h1, h2, hok', rfl, ?_, ?_, ?_, fun _ => hla, ?_, ?_, ?_, fun h => by omega⟩
          · show 0 ≤ t ∧ t ≤ _; omega
          · show _ ≤ s.last ∧ s.last ≤ _; omega
          · show s.r.any = _; rw [hany]; simp
          · intro _ j hj
            show (s.r.seen ||| 2 ^ k).testBit j = (mget (mput s.m f true) (s.last - j)).isSome
            rw [Nat.testBit_or, Nat.testBit_two_pow, mget_mput, h9 (by omega) j hj]
            by_cases hjk : k = j
            · subst hjk; simp [hfk]
            · rw [if_neg (by omega)]; simp [hjk]
          · intro _ f' hf
            show f' ≤ s.last
            simp only [mget_mput] at hf
            split at hf
            · omega
            · exact h10 (by omega) f' hf
          · intro f' b hf
            simp only [mget_mput] at hf
            split at hf
            · simpa using hf.symm
            · exact h11 f' b hf
      · obtain ⟨k, hk⟩ : ∃ k : Nat, f - s.last = (k : Int) := ⟨(f - s.last).toNat, by omega⟩
        have hk' : (f - s.last).toNat = k := by omega
        have hnone : (mget s.m f).isSome = false := by
          cases hl : (mget s.m f).isSome with
          | false => rfl
          | true => have := h10 (by omega) f hl; omega
        have e : acc s.r (f % 65536) t = (⟨s.r.len, s.r.reset, s.r.any, f % 65536, t, (s.r.seen <<< k ||| 1) &&& (2 ^ n.toNat - 1)⟩, true) := by rw [acc, if_neg q1, hdl, h1, if_neg (by simpa using q2), if_neg q3, hk']
        rw [e] at hok' ⊢
        rw [hnone]
        refine ⟨rfl, fun h => (by simp at h), ?_⟩
        simp only [if_true]
        rw [if_pos (by omega)]
        refine ⟨h1, h2, hok', rfl, ?_, ?_, ?_, fun _ => rfl, ?_, ?_, ?_, fun h => by omega⟩
        · show 0 ≤ t ∧ t ≤ _; omega
        · show _ ≤ f ∧ f ≤ _; omega
        · show s.r.any = _; rw [hany]; simp
        · intro _ j hj
          show ((s.r.seen <<< k ||| 1) &&& (2 ^ n.toNat - 1)).testBit j = (mget (mput s.m f true) (f - j)).isSome
          rw [Nat.testBit_and, Nat.testBit_or, Nat.testBit_two_pow_sub_one, Nat.testBit_shiftLeft, mget_mput]
          have hjn : j < n.toNat := by omega
          cases j with
          | zero => simp [hjn]
          | succ j =>
            rw [if_neg (by omega)]
            by_cases hjk : k ≤ j + 1
            · have hh := h9 (by omega) (j + 1 - k) (by omega)
              have e2 : s.last - ((j + 1 - k : Nat) : Int) = f - ((j + 1 : Nat) : Int) := by omega
              rw [e2] at hh
              rw [← hh]
              simp [hjn, hjk, Nat.testBit_succ]
            · have hz : (mget s.m (f - ((j + 1 : Nat) : Int))).isSome = false := by
                cases hl : (mget s.m (f - ((j + 1 : Nat) : Int))).isSome with
                | false => rfl
                | true => have := h10 (by omega) _ hl; omega
              rw [hz]
              simp [hjk, Nat.testBit_succ]
        · intro _ f' hf
          show f' ≤ f
          simp only [mget_mput] at hf
          split at hf
          · omega
          · have := h10 (by omega) f' hf; omega
        · intro f' b hf
          simp only [mget_mput] at hf
          split at hf
          · simpa using hf.symm
          · exact h11 f' b hf
    · have hq : (decide (-n < f - s.last) && decide (f - s.last < n)) = false := by
        rw [← Bool.decide_and]; exact decide_eq_false q2
      have e : acc s.r (f % 65536) t = (s.r, false) := by rw [acc, if_neg q1, hdl, h1, if_pos (by simpa using q2)]
      rw [e, hi1, hq]
      exact ⟨rfl, fun _ => rfl, by simpa using keep⟩

abbrev kI (n : Int) : Value := .int .i64 n
abbrev fB (b : Bool) : AV := .t (B b)
def encX (x : Int × Int) : T := .agg [.sc (.int .i16 x.1), .sc (.int .i16 x.2)]
theorem encX_cells (x : Int × Int) : (encX x).cells = [.sc (.int .i16 x.1), .sc (.int .i16 x.2)] := rfl
theorem key89 : KeyOk Try.prog 3 kI := key_i64 (by kernel_rfl)
theorem typ89 : typ Try.prog 89 = some (.map 3 4) := by kernel_rfl
theorem zero4 : zeroOf Try.prog 4 = some (B false) := by kernel_rfl
theorem lk89 (m : List (Int × Bool)) (k : Int) (htru : ∀ f b, mget m f = some b → b = true) (A : AObj) (hs : Heap) : lkV Try.prog 89 false (A :: .map (encM kI fB m) :: hs) (.mp 1) (.t (I k)) = some (.t (B (mget m k).isSome)) := by
  have := lk_map (h := A :: .map (encM kI fB m) :: hs) (o := 1) key89 typ89 zero4 k (f := fB) (l := m) rfl
  rw [show ofVal (kI k) = I k from rfl] at this
  rw [this]
  cases h : mget m k with
  | none => rfl
  | some b => rw [htru _ _ h]; rfl
theorem up89 (m : List (Int × Bool)) (k : Int) (A : AObj) (hs : Heap) : upV Try.prog 89 (A :: .map (encM kI fB m) :: hs) (.mp 1) (.t (I k)) (.t (B true)) = some (A :: .map (encM kI fB (mput m k true)) :: hs) := by
  have := up_map (h := A :: .map (encM kI fB m) :: hs) (o := 1) key89 typ89 k true (f := fB) (l := m) rfl
  exact this
theorem frzM (l : List (Int × Bool)) (h : Heap) (p : Nat → Bool) : frzObj h p (.map (encM kI fB l)) = some (.map (encM kI fB l)) := frz_encM (fun v => ⟨_, rfl⟩)

theorem recoverOnce_ans (length first : Int) (l : List (Int × Int)) (h1 : 0 ≤ length ∧ length < 256) (h2 : -2147483648 ≤ first ∧ first < 2147483648) (hl : ∀ x ∈ l, (-32768 ≤ x.1 ∧ x.1 < 32768) ∧ -32768 ≤ x.2 ∧ x.2 < 32768) :
    ans Try.prog pol 11 [.sc (.int .u8 length), .sc (.int .i32 first), .sl false 2 (l.map encX)] = some (B true) := by
  have t1 : length.tmod 64 = length % 64 := Int.tmod_eq_emod_of_nonneg h1.1
  have w1 : IntKind.i64.wrap (length % 64) = length % 64 := wrap_i64 (by omega) (by omega)
  obtain ⟨n, hne⟩ : ∃ n, n = 1 + length % 64 := ⟨_, rfl⟩
  have w2 : IntKind.i64.wrap (1 + length % 64) = n := by rw [hne]; exact wrap_i64 (by omega) (by omega)
  have w3 : IntKind.i64.wrap first = first := wrap_i64 (by omega) (by omega)
  have hn : 1 ≤ n ∧ n ≤ 64 := by omega
  clear hne
  have c1 := new_ans n 40000
  have qn : limR ⟨n, 40000, true, 0, 0, 0⟩ := ⟨hn.1, hn.2, by show (1 : Int) ≤ 40000; omega, by show (40000 : Int) ≤ 1099511627776; omega⟩
  rw [if_pos qn, encR] at c1
  have hmin : (if (200 : Int) < (l.length : Nat) then 200 else ((l.length : Nat) : Int)) = ((min l.length 200 : Nat) : Int) := by split <;> omega
  have htake : (l.map encX).take (min l.length 200) = (l.take 200).map encX := by
    rw [← List.map_take]; congr 1
    by_cases h : l.length ≤ 200
    · rw [Nat.min_eq_left h, List.take_of_length_le (Nat.le_refl _), List.take_of_length_le h]
    · rw [Nat.min_eq_right (by omega)]
  have hle : min l.length 200 ≤ l.length := Nat.min_le_left _ _
  have hlen : (l.take 200).length ≤ 200 := by simp; omega
  have hl' : ∀ x ∈ l.take 200, (-32768 ≤ x.1 ∧ x.1 < 32768) ∧ -32768 ≤ x.2 ∧ x.2 < 32768 := fun x hx => hl x (List.mem_of_mem_take hx)
  generalize l.take 200 = l' at htake hlen hl'
  refine ans_go 300 1 il11_eq (Nat.le_of_ble_eq_true rfl) ?_
  (simp only [il11c, go_sem, reduceIte, Nat.reduceEqDiff, Nat.reduceAdd, Int.reduceEq, Nat.reduceLeDiff, Nat.reduceLT, pol_inl, polInl, polSite, Nat.reduceBEq, Nat.reduceMul, Nat.reduceSub, Int.reduceToNat, Int.reduceLE, Int.reduceLT, Int.reduceAdd, Int.reduceSub, Int.reduceMul, Int.reduceNeg, Int.reduceDiv, Int.reduceMod, Int.reduceTDiv, Int.reduceTMod, pol_inlT, Int.reducePow, pol_inlS, binE_agg, binE_slc, binE_nil, binE_msn, slB_eq, slB_ne, eqV_app, eqR_eq, eqR_ne, rho_tmp, mkSl_app, raw11_7_0, raw11_16_15, raw11_17_13, raw11_21_3, eqT31, eqT65, eqT46, eqT50, works40_ans, t1, w1, w2, w3, c1, hmin, htake, hle] <;> (repeat' ((first | with_reducible refine brG_intro (fun hc => ?_) (fun hc => ?_) | with_reducible refine brC_intro (fun hc => ?_) (fun hc => ?_) | with_reducible refine c_opsD ?_ | with_reducible refine c_opsT ?_ | ((with_reducible refine and_crit ?_ ?_); rfl) | ((with_reducible refine crit_done ?_); rfl) | with_reducible refine mkC_go (fun _ => ?_) | with_reducible refine mkL_go (fun _ => ?_)) <;> (try simp only [Bool.not_eq_true', Bool.not_eq_false', Bool.not_true, Bool.not_false] at hc) <;> (first | simp only [hc, go_sem, reduceIte, Nat.reduceEqDiff, Nat.reduceAdd, Int.reduceEq, Nat.reduceLeDiff, Nat.reduceLT, pol_inl, polInl, polSite, Nat.reduceBEq, Nat.reduceMul, Nat.reduceSub, Int.reduceToNat, Int.reduceLE, Int.reduceLT, Int.reduceAdd, Int.reduceSub, Int.reduceMul, Int.reduceNeg, Int.reduceDiv, Int.reduceMod, Int.reduceTDiv, Int.reduceTMod, pol_inlT, Int.reducePow, pol_inlS, binE_agg, binE_slc, binE_nil, binE_msn, slB_eq, slB_ne, eqV_app, eqR_eq, eqR_ne, rho_tmp, mkSl_app, raw11_7_0, raw11_16_15, raw11_17_13, raw11_21_3, eqT31, eqT65, eqT46, eqT50, works40_ans, t1, w1, w2, w3, c1, hmin, htake, hle] | simp only [go_sem, reduceIte, Nat.reduceEqDiff, Nat.reduceAdd, Int.reduceEq, Nat.reduceLeDiff, Nat.reduceLT, pol_inl, polInl, polSite, Nat.reduceBEq, Nat.reduceMul, Nat.reduceSub, Int.reduceToNat, Int.reduceLE, Int.reduceLT, Int.reduceAdd, Int.reduceSub, Int.reduceMul, Int.reduceNeg, Int.reduceDiv, Int.reduceMod, Int.reduceTDiv, Int.reduceTMod, pol_inlT, Int.reducePow, pol_inlS, binE_agg, binE_slc, binE_nil, binE_msn, slB_eq, slB_ne, eqV_app, eqR_eq, eqR_ne, rho_tmp, mkSl_app, raw11_7_0, raw11_16_15, raw11_17_13, raw11_21_3, eqT31, eqT65, eqT46, eqT50, works40_ans, t1, w1, w2, w3, c1, hmin, htake, hle] | skip))))
  refine loop_range l' encX (step := fun i x s => .go (stO i s x)) (fin := id)
    (St := fun i s e h => (e 7 = .t (I n) ∧ e 8 = .ref 0 1 0 0 ∧ e 10 = .mp 1 ∧ e 11 = .t (I s.last) ∧ e 12 = .t (I s.at_) ∧ e 42 = .t (.sl false 2 (l'.map encX)) ∧ e 43 = .t (I (l'.length : Nat)) ∧ e 44 = .t (I (i : Nat))) ∧ h = [bxR s.r, .map (encM kI fB s.m)] ∧ OInv n i s)
    (Ex := fun _ x e h => x = .exit 0) (s := ⟨⟨n, 40000, true, 0, 0, 0⟩, [], first, 0⟩) (by omega) ?_ ?_ (by omega) ?_ ?_
  · intro i x s e h Y R hm hi hx hget hlt hw ⟨hs', hh, hinv⟩ hK
    subst hh
    have hxb := hl' x hm
    obtain ⟨ha, hb, hr, hnext⟩ := stO_inv hn hinv (by omega) hxb
    have hok := hinv.ok
    have c2 := accept_ans s.r (frm s x % 65536) (tim s x) (okR_seen hok)
    rw [accept, if_pos hok, if_pos ha, encR] at c2
    have v1 : IntKind.i64.wrap x.1 = x.1 := wrap_i64 (by omega) (by omega)
    have v2 : IntKind.i64.wrap x.2 = x.2 := wrap_i64 (by omega) (by omega)
    have hlab := hinv.lab
    have hatb := hinv.atb
    have hfrb : -2200000000 ≤ frm s x ∧ frm s x ≤ 2200000000 := by unfold frm; split <;> omega
    have hdb : -32767 ≤ frm s x - s.last ∧ frm s x - s.last ≤ 32767 := by unfold frm; split <;> omega
    have v3 : IntKind.i64.wrap (s.last + (if x.1 < -32767 then -32767 else x.1)) = frm s x := by rw [wrap_i64 (by split <;> omega) (by split <;> omega)]; rfl
    have v4 : IntKind.i64.wrap (s.at_ + (if x.2 < 0 then 0 else x.2)) = tim s x := by rw [wrap_i64 (by split <;> omega) (by split <;> omega)]; rfl
    have v5 : (IntKind.i64.wrap ((frm s x).tmod 65536 + 65536)).tmod 65536 = frm s x % 65536 := by
      have := tmod_cases (frm s x) 65536
      rw [wrap_i64 (by omega) (by omega), Int.tmod_eq_emod_of_nonneg (by omega)]
      omega
    have v6 : IntKind.i64.wrap (frm s x - s.last) = frm s x - s.last := wrap_i64 (by omega) (by omega)
    have v7 : IntKind.i64.wrap (0 - n) = -n := by rw [wrap_i64 (by omega) (by omega)]; omega
    have k1 := lk89 s.m (frm s x) hinv.tru
    have k2 := up89 s.m (frm s x)
    have hi0 : decide ((i : Int) = 0) = decide (i = 0) := by congr 1; simp
    simp only [ctlK_go] at hK
    rw [stO] at hK hnext
    unfold want at hb
    clear hfrb hdb hlab hatb
    generalize frm s x = f at *
    generalize tim s x = t at *
    cases hA : (acc s.r (f % 65536) t).2 with
    | false =>
      have hr' := hr hA
      rw [hA] at hb c2 hK hnext
      rw [hr'] at c2
      simp only [Bool.false_eq_true, if_false] at hK hnext
      have hi1 : decide (i = 0) = false := by
        cases h : decide (i = 0) with
        | false => rfl
        | true => rw [h] at hb; simp at hb
      rw [hi1] at hi0 hb
      simp only [bxR] at hK ⊢
      by_cases g1 : -n < f - s.last
      · have d1 : decide (-n < f - s.last) = true := decide_eq_true g1
        by_cases g2 : f - s.last < n
        · have d2 : decide (f - s.last < n) = true := decide_eq_true g2
          have gA : (mget s.m f).isSome = true := by
            rw [d1, d2] at hb
            cases h : (mget s.m f).isSome with
            | true => rfl
            | false => rw [h] at hb; exact absurd hb (by decide)
          simp only [gA] at k1
          (simp only [il11l0_go, il11l0b, go_sem, reduceIte, Nat.reduceEqDiff, Nat.reduceAdd, Int.reduceEq, Nat.reduceLeDiff, Nat.reduceLT, pol_inl, polInl, polSite, Nat.reduceBEq, Nat.reduceMul, Nat.reduceSub, Int.reduceToNat, Int.reduceLE, Int.reduceLT, Int.reduceAdd, Int.reduceSub, Int.reduceMul, Int.reduceNeg, Int.reduceDiv, Int.reduceMod, Int.reduceTDiv, Int.reduceTMod, pol_inlT, Int.reducePow, pol_inlS, binE_agg, binE_slc, binE_nil, binE_msn, slB_eq, slB_ne, eqV_app, eqR_eq, eqR_ne, rho_tmp, mkSl_app, raw11_7_0, raw11_16_15, raw11_17_13, raw11_21_3, eqT31, eqT65, eqT46, eqT50, hs', hlt, hw, hget, encX_cells, v1, v2, v3, v4, v5, v6, v7, c2, hi0, frzM, k1, d1, d2] <;> (repeat' ((first | with_reducible refine brG_intro (fun hc => ?_) (fun hc => ?_) | with_reducible refine brC_intro (fun hc => ?_) (fun hc => ?_) | with_reducible refine c_opsD ?_ | with_reducible refine c_opsT ?_ | ((with_reducible refine and_crit ?_ ?_); rfl) | ((with_reducible refine crit_done ?_); rfl) | with_reducible refine mkC_go (fun _ => ?_) | with_reducible refine mkL_go (fun _ => ?_)) <;> (try simp only [Bool.not_eq_true', Bool.not_eq_false', Bool.not_true, Bool.not_false] at hc) <;> (first | simp only [hc, go_sem, reduceIte, Nat.reduceEqDiff, Nat.reduceAdd, Int.reduceEq, Nat.reduceLeDiff, Nat.reduceLT, pol_inl, polInl, polSite, Nat.reduceBEq, Nat.reduceMul, Nat.reduceSub, Int.reduceToNat, Int.reduceLE, Int.reduceLT, Int.reduceAdd, Int.reduceSub, Int.reduceMul, Int.reduceNeg, Int.reduceDiv, Int.reduceMod, Int.reduceTDiv, Int.reduceTMod, pol_inlT, Int.reducePow, pol_inlS, binE_agg, binE_slc, binE_nil, binE_msn, slB_eq, slB_ne, eqV_app, eqR_eq, eqR_ne, rho_tmp, mkSl_app, raw11_7_0, raw11_16_15, raw11_17_13, raw11_21_3, eqT31, eqT65, eqT46, eqT50, hs', hlt, hw, hget, encX_cells, v1, v2, v3, v4, v5, v6, v7, c2, hi0, frzM, k1, d1, d2] | simp only [go_sem, reduceIte, Nat.reduceEqDiff, Nat.reduceAdd, Int.reduceEq, Nat.reduceLeDiff, Nat.reduceLT, pol_inl, polInl, polSite, Nat.reduceBEq, Nat.reduceMul, Nat.reduceSub, Int.reduceToNat, Int.reduceLE, Int.reduceLT, Int.reduceAdd, Int.reduceSub, Int.reduceMul, Int.reduceNeg, Int.reduceDiv, Int.reduceMod, Int.reduceTDiv, Int.reduceTMod, pol_inlT, Int.reducePow, pol_inlS, binE_agg, binE_slc, binE_nil, binE_msn, slB_eq, slB_ne, eqV_app, eqR_eq, eqR_ne, rho_tmp, mkSl_app, raw11_7_0, raw11_16_15, raw11_17_13, raw11_21_3, eqT31, eqT65, eqT46, eqT50, hs', hlt, hw, hget, encX_cells, v1, v2, v3, v4, v5, v6, v7, c2, hi0, frzM, k1, d1, d2] | skip))))
          all_goals (refine hK _ _ ⟨?_, rfl, hnext⟩; simp only [go_sem, reduceIte, Nat.reduceEqDiff, Nat.reduceAdd, Int.reduceEq, Nat.reduceLeDiff, Nat.reduceLT, pol_inl, polInl, polSite, Nat.reduceBEq, Nat.reduceMul, Nat.reduceSub, Int.reduceToNat, Int.reduceLE, Int.reduceLT, Int.reduceAdd, Int.reduceSub, Int.reduceMul, Int.reduceNeg, Int.reduceDiv, Int.reduceMod, Int.reduceTDiv, Int.reduceTMod, pol_inlT, Int.reducePow, pol_inlS, hs', hw])
        · have d2 : decide (f - s.last < n) = false := decide_eq_false g2
          (simp only [il11l0_go, il11l0b, go_sem, reduceIte, Nat.reduceEqDiff, Nat.reduceAdd, Int.reduceEq, Nat.reduceLeDiff, Nat.reduceLT, pol_inl, polInl, polSite, Nat.reduceBEq, Nat.reduceMul, Nat.reduceSub, Int.reduceToNat, Int.reduceLE, Int.reduceLT, Int.reduceAdd, Int.reduceSub, Int.reduceMul, Int.reduceNeg, Int.reduceDiv, Int.reduceMod, Int.reduceTDiv, Int.reduceTMod, pol_inlT, Int.reducePow, pol_inlS, binE_agg, binE_slc, binE_nil, binE_msn, slB_eq, slB_ne, eqV_app, eqR_eq, eqR_ne, rho_tmp, mkSl_app, raw11_7_0, raw11_16_15, raw11_17_13, raw11_21_3, eqT31, eqT65, eqT46, eqT50, hs', hlt, hw, hget, encX_cells, v1, v2, v3, v4, v5, v6, v7, c2, hi0, frzM, d1, d2] <;> (repeat' ((first | with_reducible refine brG_intro (fun hc => ?_) (fun hc => ?_) | with_reducible refine brC_intro (fun hc => ?_) (fun hc => ?_) | with_reducible refine c_opsD ?_ | with_reducible refine c_opsT ?_ | ((with_reducible refine and_crit ?_ ?_); rfl) | ((with_reducible refine crit_done ?_); rfl) | with_reducible refine mkC_go (fun _ => ?_) | with_reducible refine mkL_go (fun _ => ?_)) <;> (try simp only [Bool.not_eq_true', Bool.not_eq_false', Bool.not_true, Bool.not_false] at hc) <;> (first | simp only [hc, go_sem, reduceIte, Nat.reduceEqDiff, Nat.reduceAdd, Int.reduceEq, Nat.reduceLeDiff, Nat.reduceLT, pol_inl, polInl, polSite, Nat.reduceBEq, Nat.reduceMul, Nat.reduceSub, Int.reduceToNat, Int.reduceLE, Int.reduceLT, Int.reduceAdd, Int.reduceSub, Int.reduceMul, Int.reduceNeg, Int.reduceDiv, Int.reduceMod, Int.reduceTDiv, Int.reduceTMod, pol_inlT, Int.reducePow, pol_inlS, binE_agg, binE_slc, binE_nil, binE_msn, slB_eq, slB_ne, eqV_app, eqR_eq, eqR_ne, rho_tmp, mkSl_app, raw11_7_0, raw11_16_15, raw11_17_13, raw11_21_3, eqT31, eqT65, eqT46, eqT50, hs', hlt, hw, hget, encX_cells, v1, v2, v3, v4, v5, v6, v7, c2, hi0, frzM, d1, d2] | simp only [go_sem, reduceIte, Nat.reduceEqDiff, Nat.reduceAdd, Int.reduceEq, Nat.reduceLeDiff, Nat.reduceLT, pol_inl, polInl, polSite, Nat.reduceBEq, Nat.reduceMul, Nat.reduceSub, Int.reduceToNat, Int.reduceLE, Int.reduceLT, Int.reduceAdd, Int.reduceSub, Int.reduceMul, Int.reduceNeg, Int.reduceDiv, Int.reduceMod, Int.reduceTDiv, Int.reduceTMod, pol_inlT, Int.reducePow, pol_inlS, binE_agg, binE_slc, binE_nil, binE_msn, slB_eq, slB_ne, eqV_app, eqR_eq, eqR_ne, rho_tmp, mkSl_app, raw11_7_0, raw11_16_15, raw11_17_13, raw11_21_3, eqT31, eqT65, eqT46, eqT50, hs', hlt, hw, hget, encX_cells, v1, v2, v3, v4, v5, v6, v7, c2, hi0, frzM, d1, d2] | skip))))
          all_goals (refine hK _ _ ⟨?_, rfl, hnext⟩; simp only [go_sem, reduceIte, Nat.reduceEqDiff, Nat.reduceAdd, Int.reduceEq, Nat.reduceLeDiff, Nat.reduceLT, pol_inl, polInl, polSite, Nat.reduceBEq, Nat.reduceMul, Nat.reduceSub, Int.reduceToNat, Int.reduceLE, Int.reduceLT, Int.reduceAdd, Int.reduceSub, Int.reduceMul, Int.reduceNeg, Int.reduceDiv, Int.reduceMod, Int.reduceTDiv, Int.reduceTMod, pol_inlT, Int.reducePow, pol_inlS, hs', hw])
      · have d1 : decide (-n < f - s.last) = false := decide_eq_false g1
        (simp only [il11l0_go, il11l0b, go_sem, reduceIte, Nat.reduceEqDiff, Nat.reduceAdd, Int.reduceEq, Nat.reduceLeDiff, Nat.reduceLT, pol_inl, polInl, polSite, Nat.reduceBEq, Nat.reduceMul, Nat.reduceSub, Int.reduceToNat, Int.reduceLE, Int.reduceLT, Int.reduceAdd, Int.reduceSub, Int.reduceMul, Int.reduceNeg, Int.reduceDiv, Int.reduceMod, Int.reduceTDiv, Int.reduceTMod, pol_inlT, Int.reducePow, pol_inlS, binE_agg, binE_slc, binE_nil, binE_msn, slB_eq, slB_ne, eqV_app, eqR_eq, eqR_ne, rho_tmp, mkSl_app, raw11_7_0, raw11_16_15, raw11_17_13, raw11_21_3, eqT31, eqT65, eqT46, eqT50, hs', hlt, hw, hget, encX_cells, v1, v2, v3, v4, v5, v6, v7, c2, hi0, frzM, d1] <;> (repeat' ((first | with_reducible refine brG_intro (fun hc => ?_) (fun hc => ?_) | with_reducible refine brC_intro (fun hc => ?_) (fun hc => ?_) | with_reducible refine c_opsD ?_ | with_reducible refine c_opsT ?_ | ((with_reducible refine and_crit ?_ ?_); rfl) | ((with_reducible refine crit_done ?_); rfl) | with_reducible refine mkC_go (fun _ => ?_) | with_reducible refine mkL_go (fun _ => ?_)) <;> (try simp only [Bool.not_eq_true', Bool.not_eq_false', Bool.not_true, Bool.not_false] at hc) <;> (first | simp only [hc, go_sem, reduceIte, Nat.reduceEqDiff, Nat.reduceAdd, Int.reduceEq, Nat.reduceLeDiff, Nat.reduceLT, pol_inl, polInl, polSite, Nat.reduceBEq, Nat.reduceMul, Nat.reduceSub, Int.reduceToNat, Int.reduceLE, Int.reduceLT, Int.reduceAdd, Int.reduceSub, Int.reduceMul, Int.reduceNeg, Int.reduceDiv, Int.reduceMod, Int.reduceTDiv, Int.reduceTMod, pol_inlT, Int.reducePow, pol_inlS, binE_agg, binE_slc, binE_nil, binE_msn, slB_eq, slB_ne, eqV_app, eqR_eq, eqR_ne, rho_tmp, mkSl_app, raw11_7_0, raw11_16_15, raw11_17_13, raw11_21_3, eqT31, eqT65, eqT46, eqT50, hs', hlt, hw, hget, encX_cells, v1, v2, v3, v4, v5, v6, v7, c2, hi0, frzM, d1] | simp only [go_sem, reduceIte, Nat.reduceEqDiff, Nat.reduceAdd, Int.reduceEq, Nat.reduceLeDiff, Nat.reduceLT, pol_inl, polInl, polSite, Nat.reduceBEq, Nat.reduceMul, Nat.reduceSub, Int.reduceToNat, Int.reduceLE, Int.reduceLT, Int.reduceAdd, Int.reduceSub, Int.reduceMul, Int.reduceNeg, Int.reduceDiv, Int.reduceMod, Int.reduceTDiv, Int.reduceTMod, pol_inlT, Int.reducePow, pol_inlS, binE_agg, binE_slc, binE_nil, binE_msn, slB_eq, slB_ne, eqV_app, eqR_eq, eqR_ne, rho_tmp, mkSl_app, raw11_7_0, raw11_16_15, raw11_17_13, raw11_21_3, eqT31, eqT65, eqT46, eqT50, hs', hlt, hw, hget, encX_cells, v1, v2, v3, v4, v5, v6, v7, c2, hi0, frzM, d1] | skip))))
        all_goals (refine hK _ _ ⟨?_, rfl, hnext⟩; simp only [go_sem, reduceIte, Nat.reduceEqDiff, Nat.reduceAdd, Int.reduceEq, Nat.reduceLeDiff, Nat.reduceLT, pol_inl, polInl, polSite, Nat.reduceBEq, Nat.reduceMul, Nat.reduceSub, Int.reduceToNat, Int.reduceLE, Int.reduceLT, Int.reduceAdd, Int.reduceSub, Int.reduceMul, Int.reduceNeg, Int.reduceDiv, Int.reduceMod, Int.reduceTDiv, Int.reduceTMod, pol_inlT, Int.reducePow, pol_inlS, hs', hw])
    | true =>
      rw [hA] at hb c2 hK hnext
      simp only [if_true] at hK hnext
      cases hi1 : decide (i = 0) with
      | true =>
        have hi2 : i = 0 := of_decide_eq_true hi1
        rw [hi1] at hi0
        rw [if_pos (.inr hi2)] at hK hnext
        simp only [bxR] at hK ⊢
        (simp only [il11l0_go, il11l0b, go_sem, reduceIte, Nat.reduceEqDiff, Nat.reduceAdd, Int.reduceEq, Nat.reduceLeDiff, Nat.reduceLT, pol_inl, polInl, polSite, Nat.reduceBEq, Nat.reduceMul, Nat.reduceSub, Int.reduceToNat, Int.reduceLE, Int.reduceLT, Int.reduceAdd, Int.reduceSub, Int.reduceMul, Int.reduceNeg, Int.reduceDiv, Int.reduceMod, Int.reduceTDiv, Int.reduceTMod, pol_inlT, Int.reducePow, pol_inlS, binE_agg, binE_slc, binE_nil, binE_msn, slB_eq, slB_ne, eqV_app, eqR_eq, eqR_ne, rho_tmp, mkSl_app, raw11_7_0, raw11_16_15, raw11_17_13, raw11_21_3, eqT31, eqT65, eqT46, eqT50, hs', hlt, hw, hget, encX_cells, v1, v2, v3, v4, v5, v6, v7, c2, k2, hi0, frzM] <;> (repeat' ((first | with_reducible refine brG_intro (fun hc => ?_) (fun hc => ?_) | with_reducible refine brC_intro (fun hc => ?_) (fun hc => ?_) | with_reducible refine c_opsD ?_ | with_reducible refine c_opsT ?_ | ((with_reducible refine and_crit ?_ ?_); rfl) | ((with_reducible refine crit_done ?_); rfl) | with_reducible refine mkC_go (fun _ => ?_) | with_reducible refine mkL_go (fun _ => ?_)) <;> (try simp only [Bool.not_eq_true', Bool.not_eq_false', Bool.not_true, Bool.not_false] at hc) <;> (first | simp only [hc, go_sem, reduceIte, Nat.reduceEqDiff, Nat.reduceAdd, Int.reduceEq, Nat.reduceLeDiff, Nat.reduceLT, pol_inl, polInl, polSite, Nat.reduceBEq, Nat.reduceMul, Nat.reduceSub, Int.reduceToNat, Int.reduceLE, Int.reduceLT, Int.reduceAdd, Int.reduceSub, Int.reduceMul, Int.reduceNeg, Int.reduceDiv, Int.reduceMod, Int.reduceTDiv, Int.reduceTMod, pol_inlT, Int.reducePow, pol_inlS, binE_agg, binE_slc, binE_nil, binE_msn, slB_eq, slB_ne, eqV_app, eqR_eq, eqR_ne, rho_tmp, mkSl_app, raw11_7_0, raw11_16_15, raw11_17_13, raw11_21_3, eqT31, eqT65, eqT46, eqT50, hs', hlt, hw, hget, encX_cells, v1, v2, v3, v4, v5, v6, v7, c2, k2, hi0, frzM] | simp only [go_sem, reduceIte, Nat.reduceEqDiff, Nat.reduceAdd, Int.reduceEq, Nat.reduceLeDiff, Nat.reduceLT, pol_inl, polInl, polSite, Nat.reduceBEq, Nat.reduceMul, Nat.reduceSub, Int.reduceToNat, Int.reduceLE, Int.reduceLT, Int.reduceAdd, Int.reduceSub, Int.reduceMul, Int.reduceNeg, Int.reduceDiv, Int.reduceMod, Int.reduceTDiv, Int.reduceTMod, pol_inlT, Int.reducePow, pol_inlS, binE_agg, binE_slc, binE_nil, binE_msn, slB_eq, slB_ne, eqV_app, eqR_eq, eqR_ne, rho_tmp, mkSl_app, raw11_7_0, raw11_16_15, raw11_17_13, raw11_21_3, eqT31, eqT65, eqT46, eqT50, hs', hlt, hw, hget, encX_cells, v1, v2, v3, v4, v5, v6, v7, c2, k2, hi0, frzM] | skip))))
        all_goals (refine hK _ _ ⟨?_, rfl, hnext⟩; simp only [go_sem, reduceIte, Nat.reduceEqDiff, Nat.reduceAdd, Int.reduceEq, Nat.reduceLeDiff, Nat.reduceLT, pol_inl, polInl, polSite, Nat.reduceBEq, Nat.reduceMul, Nat.reduceSub, Int.reduceToNat, Int.reduceLE, Int.reduceLT, Int.reduceAdd, Int.reduceSub, Int.reduceMul, Int.reduceNeg, Int.reduceDiv, Int.reduceMod, Int.reduceTDiv, Int.reduceTMod, pol_inlT, Int.reducePow, pol_inlS, hs', hw])
      | false =>
        have hi2 : ¬ i = 0 := of_decide_eq_false hi1
        rw [hi1] at hi0 hb
        obtain ⟨⟨g1, g2⟩, g3⟩ : (decide (-n < f - s.last) = true ∧ decide (f - s.last < n) = true) ∧ (!(mget s.m f).isSome) = true := by
          have := hb.symm
          simp only [Bool.false_or, Bool.and_eq_true] at this
          exact this
        rw [Bool.not_eq_true'] at g3
        simp only [g3] at k1
        by_cases q : 0 < f - s.last
        · rw [if_pos (.inl q)] at hK hnext
          have d1 : decide (0 < f - s.last) = true := decide_eq_true q
          simp only [bxR] at hK ⊢
          (simp only [il11l0_go, il11l0b, go_sem, reduceIte, Nat.reduceEqDiff, Nat.reduceAdd, Int.reduceEq, Nat.reduceLeDiff, Nat.reduceLT, pol_inl, polInl, polSite, Nat.reduceBEq, Nat.reduceMul, Nat.reduceSub, Int.reduceToNat, Int.reduceLE, Int.reduceLT, Int.reduceAdd, Int.reduceSub, Int.reduceMul, Int.reduceNeg, Int.reduceDiv, Int.reduceMod, Int.reduceTDiv, Int.reduceTMod, pol_inlT, Int.reducePow, pol_inlS, binE_agg, binE_slc, binE_nil, binE_msn, slB_eq, slB_ne, eqV_app, eqR_eq, eqR_ne, rho_tmp, mkSl_app, raw11_7_0, raw11_16_15, raw11_17_13, raw11_21_3, eqT31, eqT65, eqT46, eqT50, hs', hlt, hw, hget, encX_cells, v1, v2, v3, v4, v5, v6, v7, c2, k1, k2, hi0, g1, g2, d1, frzM] <;> (repeat' ((first | with_reducible refine brG_intro (fun hc => ?_) (fun hc => ?_) | with_reducible refine brC_intro (fun hc => ?_) (fun hc => ?_) | with_reducible refine c_opsD ?_ | with_reducible refine c_opsT ?_ | ((with_reducible refine and_crit ?_ ?_); rfl) | ((with_reducible refine crit_done ?_); rfl) | with_reducible refine mkC_go (fun _ => ?_) | with_reducible refine mkL_go (fun _ => ?_)) <;> (try simp only [Bool.not_eq_true', Bool.not_eq_false', Bool.not_true, Bool.not_false] at hc) <;> (first | simp only [hc, go_sem, reduceIte, Nat.reduceEqDiff, Nat.reduceAdd, Int.reduceEq, Nat.reduceLeDiff, Nat.reduceLT, pol_inl, polInl, polSite, Nat.reduceBEq, Nat.reduceMul, Nat.reduceSub, Int.reduceToNat, Int.reduceLE, Int.reduceLT, Int.reduceAdd, Int.reduceSub, Int.reduceMul, Int.reduceNeg, Int.reduceDiv, Int.reduceMod, Int.reduceTDiv, Int.reduceTMod, pol_inlT, Int.reducePow, pol_inlS, binE_agg, binE_slc, binE_nil, binE_msn, slB_eq, slB_ne, eqV_app, eqR_eq, eqR_ne, rho_tmp, mkSl_app, raw11_7_0, raw11_16_15, raw11_17_13, raw11_21_3, eqT31, eqT65, eqT46, eqT50, hs', hlt, hw, hget, encX_cells, v1, v2, v3, v4, v5, v6, v7, c2, k1, k2, hi0, g1, g2, d1, frzM] | simp only [go_sem, reduceIte, Nat.reduceEqDiff, Nat.reduceAdd, Int.reduceEq, Nat.reduceLeDiff, Nat.reduceLT, pol_inl, polInl, polSite, Nat.reduceBEq, Nat.reduceMul, Nat.reduceSub, Int.reduceToNat, Int.reduceLE, Int.reduceLT, Int.reduceAdd, Int.reduceSub, Int.reduceMul, Int.reduceNeg, Int.reduceDiv, Int.reduceMod, Int.reduceTDiv, Int.reduceTMod, pol_inlT, Int.reducePow, pol_inlS, binE_agg, binE_slc, binE_nil, binE_msn, slB_eq, slB_ne, eqV_app, eqR_eq, eqR_ne, rho_tmp, mkSl_app, raw11_7_0, raw11_16_15, raw11_17_13, raw11_21_3, eqT31, eqT65, eqT46, eqT50, hs', hlt, hw, hget, encX_cells, v1, v2, v3, v4, v5, v6, v7, c2, k1, k2, hi0, g1, g2, d1, frzM] | skip))))
          all_goals (refine hK _ _ ⟨?_, rfl, hnext⟩; simp only [go_sem, reduceIte, Nat.reduceEqDiff, Nat.reduceAdd, Int.reduceEq, Nat.reduceLeDiff, Nat.reduceLT, pol_inl, polInl, polSite, Nat.reduceBEq, Nat.reduceMul, Nat.reduceSub, Int.reduceToNat, Int.reduceLE, Int.reduceLT, Int.reduceAdd, Int.reduceSub, Int.reduceMul, Int.reduceNeg, Int.reduceDiv, Int.reduceMod, Int.reduceTDiv, Int.reduceTMod, pol_inlT, Int.reducePow, pol_inlS, hs', hw])
        · rw [if_neg (fun h => h.elim q hi2)] at hK hnext
          have d1 : decide (0 < f - s.last) = false := decide_eq_false q
          simp only [bxR] at hK ⊢
          (simp only [il11l0_go, il11l0b, go_sem, reduceIte, Nat.reduceEqDiff, Nat.reduceAdd, Int.reduceEq, Nat.reduceLeDiff, Nat.reduceLT, pol_inl, polInl, polSite, Nat.reduceBEq, Nat.reduceMul, Nat.reduceSub, Int.reduceToNat, Int.reduceLE, Int.reduceLT, Int.reduceAdd, Int.reduceSub, Int.reduceMul, Int.reduceNeg, Int.reduceDiv, Int.reduceMod, Int.reduceTDiv, Int.reduceTMod, pol_inlT, Int.reducePow, pol_inlS, binE_agg, binE_slc, binE_nil, binE_msn, slB_eq, slB_ne, eqV_app, eqR_eq, eqR_ne, rho_tmp, mkSl_app, raw11_7_0, raw11_16_15, raw11_17_13, raw11_21_3, eqT31, eqT65, eqT46, eqT50, hs', hlt, hw, hget, encX_cells, v1, v2, v3, v4, v5, v6, v7, c2, k1, k2, hi0, g1, g2, d1, frzM] <;> (repeat' ((first | with_reducible refine brG_intro (fun hc => ?_) (fun hc => ?_) | with_reducible refine brC_intro (fun hc => ?_) (fun hc => ?_) | with_reducible refine c_opsD ?_ | with_reducible refine c_opsT ?_ | ((with_reducible refine and_crit ?_ ?_); rfl) | ((with_reducible refine crit_done ?_); rfl) | with_reducible refine mkC_go (fun _ => ?_) | with_reducible refine mkL_go (fun _ => ?_)) <;> (try simp only [Bool.not_eq_true', Bool.not_eq_false', Bool.not_true, Bool.not_false] at hc) <;> (first | simp only [hc, go_sem, reduceIte, Nat.reduceEqDiff, Nat.reduceAdd, Int.reduceEq, Nat.reduceLeDiff, Nat.reduceLT, pol_inl, polInl, polSite, Nat.reduceBEq, Nat.reduceMul, Nat.reduceSub, Int.reduceToNat, Int.reduceLE, Int.reduceLT, Int.reduceAdd, Int.reduceSub, Int.reduceMul, Int.reduceNeg, Int.reduceDiv, Int.reduceMod, Int.reduceTDiv, Int.reduceTMod, pol_inlT, Int.reducePow, pol_inlS, binE_agg, binE_slc, binE_nil, binE_msn, slB_eq, slB_ne, eqV_app, eqR_eq, eqR_ne, rho_tmp, mkSl_app, raw11_7_0, raw11_16_15, raw11_17_13, raw11_21_3, eqT31, eqT65, eqT46, eqT50, hs', hlt, hw, hget, encX_cells, v1, v2, v3, v4, v5, v6, v7, c2, k1, k2, hi0, g1, g2, d1, frzM] | simp only [go_sem, reduceIte, Nat.reduceEqDiff, Nat.reduceAdd, Int.reduceEq, Nat.reduceLeDiff, Nat.reduceLT, pol_inl, polInl, polSite, Nat.reduceBEq, Nat.reduceMul, Nat.reduceSub, Int.reduceToNat, Int.reduceLE, Int.reduceLT, Int.reduceAdd, Int.reduceSub, Int.reduceMul, Int.reduceNeg, Int.reduceDiv, Int.reduceMod, Int.reduceTDiv, Int.reduceTMod, pol_inlT, Int.reducePow, pol_inlS, binE_agg, binE_slc, binE_nil, binE_msn, slB_eq, slB_ne, eqV_app, eqR_eq, eqR_ne, rho_tmp, mkSl_app, raw11_7_0, raw11_16_15, raw11_17_13, raw11_21_3, eqT31, eqT65, eqT46, eqT50, hs', hlt, hw, hget, encX_cells, v1, v2, v3, v4, v5, v6, v7, c2, k1, k2, hi0, g1, g2, d1, frzM] | skip))))
          all_goals (refine hK _ _ ⟨?_, rfl, hnext⟩; simp only [go_sem, reduceIte, Nat.reduceEqDiff, Nat.reduceAdd, Int.reduceEq, Nat.reduceLeDiff, Nat.reduceLT, pol_inl, polInl, polSite, Nat.reduceBEq, Nat.reduceMul, Nat.reduceSub, Int.reduceToNat, Int.reduceLE, Int.reduceLT, Int.reduceAdd, Int.reduceSub, Int.reduceMul, Int.reduceNeg, Int.reduceDiv, Int.reduceMod, Int.reduceTDiv, Int.reduceTMod, pol_inlT, Int.reducePow, pol_inlS, hs', hw])
  · intro s e h Y R hlt ⟨hs', hh, hinv⟩ hK
    subst hh
    (simp only [il11l0_go, il11l0b, go_sem, reduceIte, Nat.reduceEqDiff, Nat.reduceAdd, Int.reduceEq, Nat.reduceLeDiff, Nat.reduceLT, pol_inl, polInl, polSite, Nat.reduceBEq, Nat.reduceMul, Nat.reduceSub, Int.reduceToNat, Int.reduceLE, Int.reduceLT, Int.reduceAdd, Int.reduceSub, Int.reduceMul, Int.reduceNeg, Int.reduceDiv, Int.reduceMod, Int.reduceTDiv, Int.reduceTMod, pol_inlT, Int.reducePow, pol_inlS, binE_agg, binE_slc, binE_nil, binE_msn, slB_eq, slB_ne, eqV_app, eqR_eq, eqR_ne, rho_tmp, mkSl_app, raw11_7_0, raw11_16_15, raw11_17_13, raw11_21_3, eqT31, eqT65, eqT46, eqT50, hs', hlt] <;> (repeat' ((first | with_reducible refine brG_intro (fun hc => ?_) (fun hc => ?_) | with_reducible refine brC_intro (fun hc => ?_) (fun hc => ?_) | with_reducible refine c_opsD ?_ | with_reducible refine c_opsT ?_ | ((with_reducible refine and_crit ?_ ?_); rfl) | ((with_reducible refine crit_done ?_); rfl) | with_reducible refine mkC_go (fun _ => ?_) | with_reducible refine mkL_go (fun _ => ?_)) <;> (try simp only [Bool.not_eq_true', Bool.not_eq_false', Bool.not_true, Bool.not_false] at hc) <;> (first | simp only [hc, go_sem, reduceIte, Nat.reduceEqDiff, Nat.reduceAdd, Int.reduceEq, Nat.reduceLeDiff, Nat.reduceLT, pol_inl, polInl, polSite, Nat.reduceBEq, Nat.reduceMul, Nat.reduceSub, Int.reduceToNat, Int.reduceLE, Int.reduceLT, Int.reduceAdd, Int.reduceSub, Int.reduceMul, Int.reduceNeg, Int.reduceDiv, Int.reduceMod, Int.reduceTDiv, Int.reduceTMod, pol_inlT, Int.reducePow, pol_inlS, binE_agg, binE_slc, binE_nil, binE_msn, slB_eq, slB_ne, eqV_app, eqR_eq, eqR_ne, rho_tmp, mkSl_app, raw11_7_0, raw11_16_15, raw11_17_13, raw11_21_3, eqT31, eqT65, eqT46, eqT50, hs', hlt] | simp only [go_sem, reduceIte, Nat.reduceEqDiff, Nat.reduceAdd, Int.reduceEq, Nat.reduceLeDiff, Nat.reduceLT, pol_inl, polInl, polSite, Nat.reduceBEq, Nat.reduceMul, Nat.reduceSub, Int.reduceToNat, Int.reduceLE, Int.reduceLT, Int.reduceAdd, Int.reduceSub, Int.reduceMul, Int.reduceNeg, Int.reduceDiv, Int.reduceMod, Int.reduceTDiv, Int.reduceTMod, pol_inlT, Int.reducePow, pol_inlS, binE_agg, binE_slc, binE_nil, binE_msn, slB_eq, slB_ne, eqV_app, eqR_eq, eqR_ne, rho_tmp, mkSl_app, raw11_7_0, raw11_16_15, raw11_17_13, raw11_21_3, eqT31, eqT65, eqT46, eqT50, hs', hlt] | skip))))
    all_goals (refine hK _ _ _ ?_; simp only [go_sem, reduceIte, Nat.reduceEqDiff, Nat.reduceAdd, Int.reduceEq, Nat.reduceLeDiff, Nat.reduceLT, pol_inl, polInl, polSite, Nat.reduceBEq, Nat.reduceMul, Nat.reduceSub, Int.reduceToNat, Int.reduceLE, Int.reduceLT, Int.reduceAdd, Int.reduceSub, Int.reduceMul, Int.reduceNeg, Int.reduceDiv, Int.reduceMod, Int.reduceTDiv, Int.reduceTMod, pol_inlT, Int.reducePow, pol_inlS])
  · refine ⟨?_, ?_, ?_⟩
    · simp only [go_sem, reduceIte, Nat.reduceEqDiff, Nat.reduceAdd, Int.reduceEq, Nat.reduceLeDiff, Nat.reduceLT, pol_inl, polInl, polSite, Nat.reduceBEq, Nat.reduceMul, Nat.reduceSub, Int.reduceToNat, Int.reduceLE, Int.reduceLT, Int.reduceAdd, Int.reduceSub, Int.reduceMul, Int.reduceNeg, Int.reduceDiv, Int.reduceMod, Int.reduceTDiv, Int.reduceTMod, pol_inlT, Int.reducePow, pol_inlS]
    · rfl
    · refine ⟨rfl, rfl, ⟨qn, by simp⟩, rfl, by simp, by show _ ≤ first ∧ first ≤ _; omega, rfl, fun h => by omega, fun h => by omega, fun h => by omega, fun f b h => by simp [mget] at h, fun _ => rfl⟩
  · intro x e h hx
    subst hx
    (simp only [il11c, go_sem, reduceIte, Nat.reduceEqDiff, Nat.reduceAdd, Int.reduceEq, Nat.reduceLeDiff, Nat.reduceLT, pol_inl, polInl, polSite, Nat.reduceBEq, Nat.reduceMul, Nat.reduceSub, Int.reduceToNat, Int.reduceLE, Int.reduceLT, Int.reduceAdd, Int.reduceSub, Int.reduceMul, Int.reduceNeg, Int.reduceDiv, Int.reduceMod, Int.reduceTDiv, Int.reduceTMod, pol_inlT, Int.reducePow, pol_inlS, binE_agg, binE_slc, binE_nil, binE_msn, slB_eq, slB_ne, eqV_app, eqR_eq, eqR_ne, rho_tmp, mkSl_app, raw11_7_0, raw11_16_15, raw11_17_13, raw11_21_3, eqT31, eqT65, eqT46, eqT50] <;> (repeat' ((first | with_reducible refine brG_intro (fun hc => ?_) (fun hc => ?_) | with_reducible refine brC_intro (fun hc => ?_) (fun hc => ?_) | with_reducible refine c_opsD ?_ | with_reducible refine c_opsT ?_ | ((with_reducible refine and_crit ?_ ?_); rfl) | ((with_reducible refine crit_done ?_); rfl) | with_reducible refine mkC_go (fun _ => ?_) | with_reducible refine mkL_go (fun _ => ?_)) <;> (try simp only [Bool.not_eq_true', Bool.not_eq_false', Bool.not_true, Bool.not_false] at hc) <;> (first | simp only [hc, go_sem, reduceIte, Nat.reduceEqDiff, Nat.reduceAdd, Int.reduceEq, Nat.reduceLeDiff, Nat.reduceLT, pol_inl, polInl, polSite, Nat.reduceBEq, Nat.reduceMul, Nat.reduceSub, Int.reduceToNat, Int.reduceLE, Int.reduceLT, Int.reduceAdd, Int.reduceSub, Int.reduceMul, Int.reduceNeg, Int.reduceDiv, Int.reduceMod, Int.reduceTDiv, Int.reduceTMod, pol_inlT, Int.reducePow, pol_inlS, binE_agg, binE_slc, binE_nil, binE_msn, slB_eq, slB_ne, eqV_app, eqR_eq, eqR_ne, rho_tmp, mkSl_app, raw11_7_0, raw11_16_15, raw11_17_13, raw11_21_3, eqT31, eqT65, eqT46, eqT50] | simp only [go_sem, reduceIte, Nat.reduceEqDiff, Nat.reduceAdd, Int.reduceEq, Nat.reduceLeDiff, Nat.reduceLT, pol_inl, polInl, polSite, Nat.reduceBEq, Nat.reduceMul, Nat.reduceSub, Int.reduceToNat, Int.reduceLE, Int.reduceLT, Int.reduceAdd, Int.reduceSub, Int.reduceMul, Int.reduceNeg, Int.reduceDiv, Int.reduceMod, Int.reduceTDiv, Int.reduceTMod, pol_inlT, Int.reducePow, pol_inlS, binE_agg, binE_slc, binE_nil, binE_msn, slB_eq, slB_ne, eqV_app, eqR_eq, eqR_ne, rho_tmp, mkSl_app, raw11_7_0, raw11_16_15, raw11_17_13, raw11_21_3, eqT31, eqT65, eqT46, eqT50] | skip))))

end Go.Proofs.Ytkamfflnfnjbeaa
