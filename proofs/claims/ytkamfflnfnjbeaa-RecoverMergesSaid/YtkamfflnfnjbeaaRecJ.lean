/- The law RecoverMerges: of two copies of a sequence every frame is accepted exactly once. -/
import Derived.Test.YtkamfflnfnjbeaaRecF
namespace Go.Proofs.Ytkamfflnfnjbeaa
open Go Go.Abs
set_option linter.unusedSimpArgs false
set_option linter.unusedVariables false
set_option maxRecDepth 100000
set_option maxHeartbeats 2000000

/-- The state stands for the frames D that have come. -/
def Rp (n first : Int) (r : Rc) (D : Nat → Bool) : Prop :=
  ((∀ f, D f = false) ∧ r = ⟨n, 1, true, 0, 0, 0⟩) ∨ ∃ M s, D M = true ∧ (∀ f, D f = true → f ≤ M) ∧ r = ⟨n, 1, false, (first + (M : Nat)) % 65536, 0, s⟩ ∧ s < 2 ^ n.toNat ∧ ∀ j : Nat, (j : Int) < n → s.testBit j = (decide (j ≤ M) && D (M - j))

theorem Rp_step {n first : Int} {r : Rc} {D : Nat → Bool} (hn : 1 ≤ n ∧ n ≤ 64) (h : Rp n first r D) (f : Nat) (hf : ∀ M, D M = true → (∀ g, D g = true → g ≤ M) → (f : Int) - M < n ∧ (M : Int) - f < n) :
    okR r ∧ argR r ((first + (f : Nat)) % 65536) 0 ∧ (acc r ((first + (f : Nat)) % 65536) 0).2 = !D f ∧ (D f = true → (acc r ((first + (f : Nat)) % 65536) 0).1 = r) ∧ Rp n first (acc r ((first + (f : Nat)) % 65536) 0).1 (fun g => D g || decide (g = f)) := by
  have hlim : ∀ a b c d, limR ⟨n, 1, a, b, c, d⟩ := fun a b c d => ⟨hn.1, hn.2, by show (1 : Int) ≤ 1; omega, by show (1 : Int) ≤ 1099511627776; omega⟩
  rcases h with ⟨hD, rfl⟩ | ⟨M, s, hM, hmax, rfl, hs, hbit⟩
  · have e : acc ⟨n, 1, true, 0, 0, 0⟩ ((first + (f : Nat)) % 65536) 0 = (⟨n, 1, false, (first + (f : Nat)) % 65536, 0, 1⟩, true) := by rw [acc, if_pos (.inl rfl)]
    rw [e]
    refine ⟨⟨hlim _ _ _ _, by simp⟩, ⟨by omega, by omega, by show (0 : Int) ≤ 0; omega⟩, by rw [hD]; rfl, fun h => by rw [hD] at h; simp at h, .inr ⟨f, 1, by simp, ?_, rfl, Nat.one_lt_two_pow (by omega), ?_⟩⟩
    · intro g hg
      simp only [hD, Bool.false_or, decide_eq_true_eq] at hg
      omega
    · intro j hj
      simp only [hD, Bool.false_or]
      cases j with
      | zero => simp
      | succ j =>
        rw [Nat.testBit_succ]
        simp
        omega
  · have hok : okR ⟨n, 1, false, (first + (M : Nat)) % 65536, 0, s⟩ := by
      refine ⟨hlim _ _ _ _, ?_⟩
      simp only [Bool.false_eq_true, if_false]
      refine ⟨by omega, by omega, ?_, hs⟩
      rw [hbit 0 (by omega)]
      simp [hM]
    have hdist := hf M hM hmax
    have hdl : dl ((first + (M : Nat)) % 65536) ((first + (f : Nat)) % 65536) = (f : Int) - M := by unfold dl; omega
    have q1 : ¬ (false = true ∨ (1 : Int) < 0 - 0) := by simp
    refine ⟨hok, ⟨by omega, by omega, by show (0 : Int) ≤ 0; omega⟩, ?_⟩
    by_cases q3 : (f : Int) - M ≤ 0
    · obtain ⟨k, hk⟩ : ∃ k : Nat, (f : Int) - M = -(k : Int) := ⟨M - f, by omega⟩
      have hk' : (-((f : Int) - M)).toNat = k := by omega
      have hb := hbit k (by omega)
      have hMk : M - k = f := by omega
      rw [hMk, decide_eq_true (show k ≤ M by omega), Bool.true_and] at hb
      cases hDf : D f with
      | true =>
        rw [hDf] at hb
        have e : acc ⟨n, 1, false, (first + (M : Nat)) % 65536, 0, s⟩ ((first + (f : Nat)) % 65536) 0 = (⟨n, 1, false, (first + (M : Nat)) % 65536, 0, s⟩, false) := by
          rw [acc, if_neg q1, hdl, if_neg (by simp; omega), if_pos q3, hk', if_pos hb]
        rw [e]
        have hD' : (fun g => D g || decide (g = f)) = D := by
          funext g
          by_cases hg : g = f
          · simp [hg, hDf]
          · simp [hg]
        rw [hD']
        exact ⟨rfl, fun _ => rfl, .inr ⟨M, s, hM, hmax, rfl, hs, hbit⟩⟩
      | false =>
        rw [hDf] at hb
        have e : acc ⟨n, 1, false, (first + (M : Nat)) % 65536, 0, s⟩ ((first + (f : Nat)) % 65536) 0 = (⟨n, 1, false, (first + (M : Nat)) % 65536, 0, s ||| 2 ^ k⟩, true) := by
          rw [acc, if_neg q1, hdl, if_neg (by simp; omega), if_pos q3, hk', if_neg (by simp [hb])]
        rw [e]
        refine ⟨rfl, fun h => by simp at h, .inr ⟨M, s ||| 2 ^ k, by simp [hM], ?_, rfl, Nat.or_lt_two_pow hs (Nat.pow_lt_pow_right (by omega) (by omega)), ?_⟩⟩
        · intro g hg
          simp only [Bool.or_eq_true, decide_eq_true_eq] at hg
          rcases hg with hg | hg
          · exact hmax g hg
          · omega
        · intro j hj
          rw [Nat.testBit_or, Nat.testBit_two_pow, hbit j hj]
          by_cases hjk : k = j
          · subst hjk
            simp [hMk]
            omega
          · by_cases hjM : j ≤ M
            · simp [hjk, hjM]
              intro h
              omega
            · simp [hjk, hjM]
    · obtain ⟨k, hk⟩ : ∃ k : Nat, (f : Int) - M = (k : Int) := ⟨f - M, by omega⟩
      have hk' : ((f : Int) - M).toNat = k := by omega
      have hDf : D f = false := by
        cases h : D f with
        | false => rfl
        | true => have := hmax f h; omega
      have e : acc ⟨n, 1, false, (first + (M : Nat)) % 65536, 0, s⟩ ((first + (f : Nat)) % 65536) 0 = (⟨n, 1, false, (first + (f : Nat)) % 65536, 0, (s <<< k ||| 1) &&& (2 ^ n.toNat - 1)⟩, true) := by
        rw [acc, if_neg q1, hdl, if_neg (by simp; omega), if_neg q3, hk']
      rw [e, hDf]
      refine ⟨rfl, fun h => by simp at h, .inr ⟨f, (s <<< k ||| 1) &&& (2 ^ n.toNat - 1), by simp, ?_, rfl, Nat.and_lt_two_pow _ (by have : 0 < 2 ^ n.toNat := Nat.pow_pos (by omega); omega), ?_⟩⟩
      · intro g hg
        simp only [Bool.or_eq_true, decide_eq_true_eq] at hg
        rcases hg with hg | hg
        · have := hmax g hg; omega
        · omega
      · intro j hj
        have hjn : j < n.toNat := by omega
        rw [Nat.testBit_and, Nat.testBit_or, Nat.testBit_two_pow_sub_one, Nat.testBit_shiftLeft]
        cases j with
        | zero => simp [hjn]
        | succ j =>
          have h1 : Nat.testBit 1 (j + 1) = false := by rw [Nat.testBit_succ]; simp
          rw [h1]
          by_cases hjk : k ≤ j + 1
          · rw [hbit (j + 1 - k) (by omega)]
            by_cases hjf : j + 1 ≤ f
            · have e2 : M - (j + 1 - k) = f - (j + 1) := by omega
              have e3 : ¬ f - (j + 1) = f := by omega
              have e4 : j + 1 - k ≤ M := by omega
              simp [hjn, hjk, hjf, e2, e3, e4]
            · have e4 : ¬ j + 1 - k ≤ M := by omega
              simp [hjf, e4]
          · have hz : D (f - (j + 1)) = false := by
              cases h : D (f - (j + 1)) with
              | false => rfl
              | true => have := hmax _ h; omega
            have e3 : j + 1 ≤ f → ¬ f - (j + 1) = f := by omega
            by_cases hjf : j + 1 ≤ f
            · simp [hjk, hz, e3 hjf]
            · simp [hjk, hjf]

def vl (L : List Int) (f : Nat) : Int := (L.getD f 0) % 3
/-- The frames that have come: first copies of frames below k, second copies of frames below k2 - b. -/
def DD (L : List Int) (N b k k2 : Nat) (f : Nat) : Bool := decide (f < N) && ((decide (f < k) && !decide (vl L f = 1)) || (decide (f + b < k2) && !decide (vl L f = 2)))
def Dk (L : List Int) (N b k : Nat) : Nat → Nat → Bool
  | 0 => DD L N b k k
  | 1 => DD L N b (k + 1) k
  | _ => DD L N b (k + 1) (k + 1)
def fr (b k : Nat) : Nat → Int
  | 0 => (k : Int)
  | _ => (k : Int) - b

theorem mstep (L : List Int) (N b k : Nat) (n : Int) (hb : (b : Int) + 2 ≤ n) (i : Nat) (hi : i < 2) :
    ((fr b k i < 0 ∨ (N : Int) ≤ fr b k i ∨ ∃ f : Nat, fr b k i = f ∧ f < N ∧ vl L f = 1 + (i : Int)) ∧ Dk L N b k (i + 1) = Dk L N b k i) ∨
    (∃ f : Nat, fr b k i = f ∧ f < N ∧ ¬ vl L f = 1 + (i : Int) ∧ Dk L N b k (i + 1) = (fun g => Dk L N b k i g || decide (g = f)) ∧ ∀ M, Dk L N b k i M = true → (∀ g, Dk L N b k i g = true → g ≤ M) → (f : Int) - M < n ∧ (M : Int) - f < n) := by
  have hi2 : i = 0 ∨ i = 1 := by omega
  rcases hi2 with rfl | rfl
  · simp only [fr, Dk]
    by_cases h : k < N ∧ ¬ vl L k = 1
    · refine .inr ⟨k, rfl, h.1, by simpa using h.2, ?_, ?_⟩
      · funext g
        simp only [DD]
        by_cases hg : g = k
        · subst hg; simp [h.1, h.2]
        · have e : decide (g < k + 1) = decide (g < k) := by congr 1; rw [eq_iff_iff]; omega
          simp [e, hg]
      · intro M hM hmax
        simp only [DD, Bool.and_eq_true, Bool.or_eq_true, decide_eq_true_eq, Bool.not_eq_true', decide_eq_false_iff_not] at hM
        have hMk : M < k := by omega
        refine ⟨?_, by omega⟩
        by_cases hkb : b + 1 ≤ k
        · have hg := hmax (k - 1 - b) (by
            simp only [DD, Bool.and_eq_true, Bool.or_eq_true, decide_eq_true_eq, Bool.not_eq_true', decide_eq_false_iff_not]
            refine ⟨by omega, ?_⟩
            by_cases hv : vl L (k - 1 - b) = 1
            · exact .inr ⟨by omega, by omega⟩
            · exact .inl ⟨by omega, hv⟩)
          omega
        · omega
    · refine .inl ⟨?_, ?_⟩
      · by_cases hk : k < N
        · refine .inr (.inr ⟨k, rfl, hk, ?_⟩)
          have : vl L k = 1 := by
            by_cases hv : vl L k = 1
            · exact hv
            · exact absurd ⟨hk, hv⟩ h
          simpa using this
        · exact .inr (.inl (by omega))
      · funext g
        simp only [DD]
        by_cases hg : g = k
        · subst hg
          by_cases hk : g < N
          · have hv : vl L g = 1 := by
              by_cases hv : vl L g = 1
              · exact hv
              · exact absurd ⟨hk, hv⟩ h
            simp [hv]
          · simp [hk]
        · have e : decide (g < k + 1) = decide (g < k) := by congr 1; rw [eq_iff_iff]; omega
          simp [e]
  · simp only [fr, Dk]
    by_cases h : b ≤ k ∧ k - b < N ∧ ¬ vl L (k - b) = 2
    · refine .inr ⟨k - b, by omega, h.2.1, by simpa using h.2.2, ?_, ?_⟩
      · funext g
        simp only [DD]
        by_cases hg : g = k - b
        · subst hg
          have h3 : k - b + b < k + 1 := by omega
          simp [h.2.1, h.2.2, h3]
        · have e : decide (g + b < k + 1) = decide (g + b < k) := by congr 1; rw [eq_iff_iff]; omega
          simp [e, hg]
      · intro M hM hmax
        simp only [DD, Bool.and_eq_true, Bool.or_eq_true, decide_eq_true_eq, Bool.not_eq_true', decide_eq_false_iff_not] at hM
        have hMk : M ≤ k := by omega
        refine ⟨?_, by omega⟩
        by_cases hkb : b + 1 ≤ k
        · have hg := hmax (k - b - 1) (by
            simp only [DD, Bool.and_eq_true, Bool.or_eq_true, decide_eq_true_eq, Bool.not_eq_true', decide_eq_false_iff_not]
            refine ⟨by omega, ?_⟩
            by_cases hv : vl L (k - b - 1) = 1
            · exact .inr ⟨by omega, by omega⟩
            · exact .inl ⟨by omega, hv⟩)
          omega
        · omega
    · refine .inl ⟨?_, ?_⟩
      · by_cases hk : b ≤ k
        · by_cases hk2 : k - b < N
          · refine .inr (.inr ⟨k - b, by omega, hk2, ?_⟩)
            have : vl L (k - b) = 2 := by
              by_cases hv : vl L (k - b) = 2
              · exact hv
              · exact absurd ⟨hk, hk2, hv⟩ h
            simpa using this
          · exact .inr (.inl (by omega))
        · exact .inl (by omega)
      · funext g
        simp only [DD]
        by_cases hg : g + b = k
        · have hgk : k - b = g := by omega
          by_cases hk : g < N
          · have hv : vl L g = 2 := by
              by_cases hv : vl L g = 2
              · exact hv
              · exact absurd ⟨by omega, by omega, by rw [hgk]; exact hv⟩ h
            simp [hv]
          · simp [hk]
        · have e : decide (g + b < k + 1) = decide (g + b < k) := by congr 1; rw [eq_iff_iff]; omega
          simp [e]

def cnt (N : Nat) (D : Nat → Bool) : List Int := (List.range N).map (fun f => if D f then (1 : Int) else 0)
theorem cnt_len (N : Nat) (D : Nat → Bool) : (cnt N D).length = N := by simp [cnt]
theorem cnt_get {N : Nat} {D : Nat → Bool} {f : Nat} (hf : f < N) : (cnt N D)[f]? = some (if D f then 1 else 0) := by simp [cnt, hf]
theorem cnt_set {N : Nat} {D : Nat → Bool} {f : Nat} (hf : f < N) : (cnt N D).set f 1 = cnt N (fun g => D g || decide (g = f)) := by
  refine List.ext_getElem? fun i => ?_
  rw [List.getElem?_set]
  by_cases hi : i < N
  · by_cases hfi : f = i
    · subst hfi
      rw [if_pos rfl, if_pos (by rw [cnt_len]; exact hf), cnt_get hf]
      simp
    · rw [if_neg hfi, cnt_get hi, cnt_get hi]
      have : ¬ i = f := fun h => hfi h.symm
      simp [this]
  · have h1 : (cnt N D)[i]? = none := by rw [List.getElem?_eq_none_iff, cnt_len]; omega
    have h2 : (cnt N (fun g => D g || decide (g = f)))[i]? = none := by rw [List.getElem?_eq_none_iff, cnt_len]; omega
    rw [h1, h2, if_neg (by omega)]

abbrev U8 (n : Int) : T := .sc (.int .u8 n)
def fI (n : Int) : AV := .t (I n)
theorem fI_eq (n : Int) : fI n = .t (I n) := rfl
def heapJ (N : Nat) (r : Rc) (D : Nat → Bool) (mr : Nat) : Heap := [bxR r, .row 1 ((cnt N D).map fI) mr]
theorem cntF_get {N : Nat} {D : Nat → Bool} {f : Nat} (hf : f < N) (hD : D f = false) : ((cnt N D).map fI)[f]? = some (.t (I 0)) := by rw [List.getElem?_map, cnt_get hf, hD]; rfl
theorem cntF_set {N : Nat} {D : Nat → Bool} {f : Nat} (hf : f < N) : ((cnt N D).map fI).set f (.t (I 1)) = (cnt N (fun g => D g || decide (g = f))).map fI := by
  rw [← cnt_set hf, List.map_set]; rfl
theorem cntF_av {p : Nat → Bool} (l : List Int) : avoidAll p (l.map fI) = true := by
  have : l.map fI = (l.map I).map AV.t := by simp [fI]
  rw [this]
  exact av_map
theorem vl_tmod {L : List Int} (hL : ∀ x ∈ L, 0 ≤ x ∧ x < 256) {f : Nat} {x : Int} (hx : L[f]? = some x) : x.tmod 3 = vl L f := by
  have h1 := hL x (List.mem_of_getElem? hx)
  rw [Int.tmod_eq_emod_of_nonneg h1.1, vl, List.getD_eq_getElem?_getD, hx]
  rfl

theorem merges_l0 (L : List Int) (hL : ∀ x ∈ L, 0 ≤ x ∧ x < 256) (N b k : Nat) (hN : N ≤ L.length) (hN2 : N ≤ 150) (n first : Int) (hn : 1 ≤ n ∧ n ≤ 64) (hb : (b : Int) + 2 ≤ n) (hfi : 0 ≤ first ∧ first < 65536) (t48 t49 : T) (hk : k ≤ 1000) (J : Inl) (n0 : Nat) (R : Xit → FEnv → Heap → Prop) (e : FEnv) (h : Heap)
    (he : e 2 = .t (.sc (.int .u16 first)) ∧ e 3 = .t (.sl false 1 (L.map U8)) ∧ e 10 = .t (I b) ∧ e 11 = .ref 0 1 0 0 ∧ e 13 = .t (I N) ∧ e 14 = .ms 1 N 0 N 1 true ∧ e 48 = .t t48 ∧ e 49 = .t t49 ∧ e 56 = .t (.agg [I k, I ((k : Int) - b)]) ∧ e 57 = .t (I 0))
    (hh : ∃ r mr, mr ≤ N ∧ h = heapJ N r (Dk L N b k 0) mr ∧ Rp n first r (Dk L N b k 0))
    (hR : ∀ e h, (e 2 = .t (.sc (.int .u16 first)) ∧ e 3 = .t (.sl false 1 (L.map U8)) ∧ e 10 = .t (I b) ∧ e 11 = .ref 0 1 0 0 ∧ e 13 = .t (I N) ∧ e 14 = .ms 1 N 0 N 1 true ∧ e 48 = .t t48 ∧ e 49 = .t t49) → (∃ r mr, mr ≤ N ∧ h = heapJ N r (Dk L N b k 2) mr ∧ Rp n first r (Dk L N b k 2)) → R (.exit 2) e h) :
    wpIter 2 (some [2, 3, 10, 11, 13, 14, 48, 49, 56, 57]) (wc Try.prog pol (ans Try.prog pol) J n0 12 il12l0) R 400 e h := by
  refine loop_upto 2 (step := fun i (_ : Unit) => Ctl.go ()) (fin := id)
    (St := fun i _ e h => (e 2 = .t (.sc (.int .u16 first)) ∧ e 3 = .t (.sl false 1 (L.map U8)) ∧ e 10 = .t (I b) ∧ e 11 = .ref 0 1 0 0 ∧ e 13 = .t (I N) ∧ e 14 = .ms 1 N 0 N 1 true ∧ e 48 = .t t48 ∧ e 49 = .t t49 ∧ e 56 = .t (.agg [I k, I ((k : Int) - b)]) ∧ e 57 = .t (I (i : Nat))) ∧ ∃ r mr, mr ≤ N ∧ h = heapJ N r (Dk L N b k i) mr ∧ Rp n first r (Dk L N b k i))
    (Ex := fun _ y e h => (e 2 = .t (.sc (.int .u16 first)) ∧ e 3 = .t (.sl false 1 (L.map U8)) ∧ e 10 = .t (I b) ∧ e 11 = .ref 0 1 0 0 ∧ e 13 = .t (I N) ∧ e 14 = .ms 1 N 0 N 1 true ∧ e 48 = .t t48 ∧ e 49 = .t t49) ∧ y = .exit 2 ∧ ∃ r mr, mr ≤ N ∧ h = heapJ N r (Dk L N b k 2) mr ∧ Rp n first r (Dk L N b k 2)) (s := ()) (by omega) ?_ ?_ (by omega) ⟨he, hh⟩ ?_
  · intro i _ e h Y R hi _ hw ⟨hs', r, mr, hmr, hhp, hrp⟩ hK
    subst hhp
    simp only [ctlK_go] at hK
    have dd : decide ((i : Int) < 2) = true := decide_eq_true (by omega)
    have hx : (([.t (I k), .t (I ((k : Int) - b))] : List AV).drop (i * 1)).head? = some (.t (I (fr b k i))) := by
      have hi3 : i = 0 ∨ i = 1 := by omega
      rcases hi3 with rfl | rfl <;> rfl
    have u1 : IntKind.i64.wrap (1 + (i : Int)) = 1 + (i : Int) := wrap_i64 (by omega) (by omega)
    have u2 : IntKind.u8.wrap (1 + (i : Int)) = 1 + (i : Int) := by rw [wrap_u8]; omega
    have hcl := cnt_len N (Dk L N b k i)
    have hav : ∀ p : Nat → Bool, avoidAll p ((cnt N (Dk L N b k i)).map fI) = true := fun p => cntF_av _
    have hms := mstep L N b k n hb i hi
    rcases hms with ⟨hskip, hD⟩ | ⟨f, hf, hfN, hv, hD, hdist⟩
    · rw [hD] at hK
      simp only [heapJ, bxR] at hK ⊢
      rcases hskip with hneg | hbig | ⟨f, hf, hfN, hv⟩
      · have d1 : decide (fr b k i < 0) = true := decide_eq_true hneg
        (simp only [il12l0_go, il12l0b, go_sem, reduceIte, Nat.reduceEqDiff, Nat.reduceAdd, Int.reduceEq, Nat.reduceLeDiff, Nat.reduceLT, pol_inl, polInl, polSite, Nat.reduceBEq, Nat.reduceMul, Nat.reduceSub, Int.reduceToNat, Int.reduceLE, Int.reduceLT, Int.reduceAdd, Int.reduceSub, Int.reduceMul, Int.reduceNeg, Int.reduceDiv, Int.reduceMod, Int.reduceTDiv, Int.reduceTMod, pol_inlT, Int.reducePow, pol_inlS, binE_agg, binE_slc, binE_nil, binE_msn, slB_eq, slB_ne, eqV_app, eqR_eq, eqR_ne, rho_tmp, mkSl_app, raw12_9_1, eqT31, eqT65, eqT46, eqT50, hs', dd, hi, hx, hw, d1, hav] <;> (repeat' ((first | with_reducible refine brG_intro (fun hc => ?_) (fun hc => ?_) | with_reducible refine brC_intro (fun hc => ?_) (fun hc => ?_) | with_reducible refine c_opsD ?_ | with_reducible refine c_opsT ?_ | ((with_reducible refine and_crit ?_ ?_); rfl) | ((with_reducible refine crit_done ?_); rfl) | with_reducible refine mkC_go (fun _ => ?_) | with_reducible refine mkL_go (fun _ => ?_)) <;> (try simp only [Bool.not_eq_true', Bool.not_eq_false', Bool.not_true, Bool.not_false] at hc) <;> (first | simp only [hc, go_sem, reduceIte, Nat.reduceEqDiff, Nat.reduceAdd, Int.reduceEq, Nat.reduceLeDiff, Nat.reduceLT, pol_inl, polInl, polSite, Nat.reduceBEq, Nat.reduceMul, Nat.reduceSub, Int.reduceToNat, Int.reduceLE, Int.reduceLT, Int.reduceAdd, Int.reduceSub, Int.reduceMul, Int.reduceNeg, Int.reduceDiv, Int.reduceMod, Int.reduceTDiv, Int.reduceTMod, pol_inlT, Int.reducePow, pol_inlS, binE_agg, binE_slc, binE_nil, binE_msn, slB_eq, slB_ne, eqV_app, eqR_eq, eqR_ne, rho_tmp, mkSl_app, raw12_9_1, eqT31, eqT65, eqT46, eqT50, hs', dd, hi, hx, hw, d1, hav] | simp only [go_sem, reduceIte, Nat.reduceEqDiff, Nat.reduceAdd, Int.reduceEq, Nat.reduceLeDiff, Nat.reduceLT, pol_inl, polInl, polSite, Nat.reduceBEq, Nat.reduceMul, Nat.reduceSub, Int.reduceToNat, Int.reduceLE, Int.reduceLT, Int.reduceAdd, Int.reduceSub, Int.reduceMul, Int.reduceNeg, Int.reduceDiv, Int.reduceMod, Int.reduceTDiv, Int.reduceTMod, pol_inlT, Int.reducePow, pol_inlS, binE_agg, binE_slc, binE_nil, binE_msn, slB_eq, slB_ne, eqV_app, eqR_eq, eqR_ne, rho_tmp, mkSl_app, raw12_9_1, eqT31, eqT65, eqT46, eqT50, hs', dd, hi, hx, hw, d1, hav] | skip))))
        all_goals (refine hK _ _ ⟨?_, r, mr, hmr, rfl, hrp⟩; simp only [go_sem, reduceIte, Nat.reduceEqDiff, Nat.reduceAdd, Int.reduceEq, Nat.reduceLeDiff, Nat.reduceLT, pol_inl, polInl, polSite, Nat.reduceBEq, Nat.reduceMul, Nat.reduceSub, Int.reduceToNat, Int.reduceLE, Int.reduceLT, Int.reduceAdd, Int.reduceSub, Int.reduceMul, Int.reduceNeg, Int.reduceDiv, Int.reduceMod, Int.reduceTDiv, Int.reduceTMod, pol_inlT, Int.reducePow, pol_inlS, hs', hw])
      · have d1 : decide (fr b k i < 0) = false := decide_eq_false (by omega)
        have d2 : decide ((N : Int) ≤ fr b k i) = true := decide_eq_true hbig
        (simp only [il12l0_go, il12l0b, go_sem, reduceIte, Nat.reduceEqDiff, Nat.reduceAdd, Int.reduceEq, Nat.reduceLeDiff, Nat.reduceLT, pol_inl, polInl, polSite, Nat.reduceBEq, Nat.reduceMul, Nat.reduceSub, Int.reduceToNat, Int.reduceLE, Int.reduceLT, Int.reduceAdd, Int.reduceSub, Int.reduceMul, Int.reduceNeg, Int.reduceDiv, Int.reduceMod, Int.reduceTDiv, Int.reduceTMod, pol_inlT, Int.reducePow, pol_inlS, binE_agg, binE_slc, binE_nil, binE_msn, slB_eq, slB_ne, eqV_app, eqR_eq, eqR_ne, rho_tmp, mkSl_app, raw12_9_1, eqT31, eqT65, eqT46, eqT50, hs', dd, hi, hx, hw, d1, d2, hav] <;> (repeat' ((first | with_reducible refine brG_intro (fun hc => ?_) (fun hc => ?_) | with_reducible refine brC_intro (fun hc => ?_) (fun hc => ?_) | with_reducible refine c_opsD ?_ | with_reducible refine c_opsT ?_ | ((with_reducible refine and_crit ?_ ?_); rfl) | ((with_reducible refine crit_done ?_); rfl) | with_reducible refine mkC_go (fun _ => ?_) | with_reducible refine mkL_go (fun _ => ?_)) <;> (try simp only [Bool.not_eq_true', Bool.not_eq_false', Bool.not_true, Bool.not_false] at hc) <;> (first | simp only [hc, go_sem, reduceIte, Nat.reduceEqDiff, Nat.reduceAdd, Int.reduceEq, Nat.reduceLeDiff, Nat.reduceLT, pol_inl, polInl, polSite, Nat.reduceBEq, Nat.reduceMul, Nat.reduceSub, Int.reduceToNat, Int.reduceLE, Int.reduceLT, Int.reduceAdd, Int.reduceSub, Int.reduceMul, Int.reduceNeg, Int.reduceDiv, Int.reduceMod, Int.reduceTDiv, Int.reduceTMod, pol_inlT, Int.reducePow, pol_inlS, binE_agg, binE_slc, binE_nil, binE_msn, slB_eq, slB_ne, eqV_app, eqR_eq, eqR_ne, rho_tmp, mkSl_app, raw12_9_1, eqT31, eqT65, eqT46, eqT50, hs', dd, hi, hx, hw, d1, d2, hav] | simp only [go_sem, reduceIte, Nat.reduceEqDiff, Nat.reduceAdd, Int.reduceEq, Nat.reduceLeDiff, Nat.reduceLT, pol_inl, polInl, polSite, Nat.reduceBEq, Nat.reduceMul, Nat.reduceSub, Int.reduceToNat, Int.reduceLE, Int.reduceLT, Int.reduceAdd, Int.reduceSub, Int.reduceMul, Int.reduceNeg, Int.reduceDiv, Int.reduceMod, Int.reduceTDiv, Int.reduceTMod, pol_inlT, Int.reducePow, pol_inlS, binE_agg, binE_slc, binE_nil, binE_msn, slB_eq, slB_ne, eqV_app, eqR_eq, eqR_ne, rho_tmp, mkSl_app, raw12_9_1, eqT31, eqT65, eqT46, eqT50, hs', dd, hi, hx, hw, d1, d2, hav] | skip))))
        all_goals (refine hK _ _ ⟨?_, r, mr, hmr, rfl, hrp⟩; simp only [go_sem, reduceIte, Nat.reduceEqDiff, Nat.reduceAdd, Int.reduceEq, Nat.reduceLeDiff, Nat.reduceLT, pol_inl, polInl, polSite, Nat.reduceBEq, Nat.reduceMul, Nat.reduceSub, Int.reduceToNat, Int.reduceLE, Int.reduceLT, Int.reduceAdd, Int.reduceSub, Int.reduceMul, Int.reduceNeg, Int.reduceDiv, Int.reduceMod, Int.reduceTDiv, Int.reduceTMod, pol_inlT, Int.reducePow, pol_inlS, hs', hw])
      · rw [hf] at hx
        have d1 : decide ((f : Int) < 0) = false := decide_eq_false (by omega)
        have d2 : decide ((N : Int) ≤ (f : Int)) = false := decide_eq_false (by omega)
        obtain ⟨x, hxl⟩ : ∃ x, L[f]? = some x := ⟨L[f], by simp⟩
        have hg : (L.map U8)[f]? = some (U8 x) := by simp [hxl]
        have ht := vl_tmod hL hxl
        rw [hv] at ht
        (simp only [il12l0_go, il12l0b, go_sem, reduceIte, Nat.reduceEqDiff, Nat.reduceAdd, Int.reduceEq, Nat.reduceLeDiff, Nat.reduceLT, pol_inl, polInl, polSite, Nat.reduceBEq, Nat.reduceMul, Nat.reduceSub, Int.reduceToNat, Int.reduceLE, Int.reduceLT, Int.reduceAdd, Int.reduceSub, Int.reduceMul, Int.reduceNeg, Int.reduceDiv, Int.reduceMod, Int.reduceTDiv, Int.reduceTMod, pol_inlT, Int.reducePow, pol_inlS, binE_agg, binE_slc, binE_nil, binE_msn, slB_eq, slB_ne, eqV_app, eqR_eq, eqR_ne, rho_tmp, mkSl_app, raw12_9_1, eqT31, eqT65, eqT46, eqT50, hs', dd, hi, hx, hw, d1, d2, hg, ht, u1, u2, hav] <;> (repeat' ((first | with_reducible refine brG_intro (fun hc => ?_) (fun hc => ?_) | with_reducible refine brC_intro (fun hc => ?_) (fun hc => ?_) | with_reducible refine c_opsD ?_ | with_reducible refine c_opsT ?_ | ((with_reducible refine and_crit ?_ ?_); rfl) | ((with_reducible refine crit_done ?_); rfl) | with_reducible refine mkC_go (fun _ => ?_) | with_reducible refine mkL_go (fun _ => ?_)) <;> (try simp only [Bool.not_eq_true', Bool.not_eq_false', Bool.not_true, Bool.not_false] at hc) <;> (first | simp only [hc, go_sem, reduceIte, Nat.reduceEqDiff, Nat.reduceAdd, Int.reduceEq, Nat.reduceLeDiff, Nat.reduceLT, pol_inl, polInl, polSite, Nat.reduceBEq, Nat.reduceMul, Nat.reduceSub, Int.reduceToNat, Int.reduceLE, Int.reduceLT, Int.reduceAdd, Int.reduceSub, Int.reduceMul, Int.reduceNeg, Int.reduceDiv, Int.reduceMod, Int.reduceTDiv, Int.reduceTMod, pol_inlT, Int.reducePow, pol_inlS, binE_agg, binE_slc, binE_nil, binE_msn, slB_eq, slB_ne, eqV_app, eqR_eq, eqR_ne, rho_tmp, mkSl_app, raw12_9_1, eqT31, eqT65, eqT46, eqT50, hs', dd, hi, hx, hw, d1, d2, hg, ht, u1, u2, hav] | simp only [go_sem, reduceIte, Nat.reduceEqDiff, Nat.reduceAdd, Int.reduceEq, Nat.reduceLeDiff, Nat.reduceLT, pol_inl, polInl, polSite, Nat.reduceBEq, Nat.reduceMul, Nat.reduceSub, Int.reduceToNat, Int.reduceLE, Int.reduceLT, Int.reduceAdd, Int.reduceSub, Int.reduceMul, Int.reduceNeg, Int.reduceDiv, Int.reduceMod, Int.reduceTDiv, Int.reduceTMod, pol_inlT, Int.reducePow, pol_inlS, binE_agg, binE_slc, binE_nil, binE_msn, slB_eq, slB_ne, eqV_app, eqR_eq, eqR_ne, rho_tmp, mkSl_app, raw12_9_1, eqT31, eqT65, eqT46, eqT50, hs', dd, hi, hx, hw, d1, d2, hg, ht, u1, u2, hav] | skip))))
        all_goals (refine hK _ _ ⟨?_, r, mr, hmr, rfl, hrp⟩; simp only [go_sem, reduceIte, Nat.reduceEqDiff, Nat.reduceAdd, Int.reduceEq, Nat.reduceLeDiff, Nat.reduceLT, pol_inl, polInl, polSite, Nat.reduceBEq, Nat.reduceMul, Nat.reduceSub, Int.reduceToNat, Int.reduceLE, Int.reduceLT, Int.reduceAdd, Int.reduceSub, Int.reduceMul, Int.reduceNeg, Int.reduceDiv, Int.reduceMod, Int.reduceTDiv, Int.reduceTMod, pol_inlT, Int.reducePow, pol_inlS, hs', hw])
    · rw [hD] at hK
      obtain ⟨hok, harg, hacc, hsame, hrp'⟩ := Rp_step hn hrp f hdist
      rw [hf] at hx
      have d1 : decide ((f : Int) < 0) = false := decide_eq_false (by omega)
      have d2 : decide ((N : Int) ≤ (f : Int)) = false := decide_eq_false (by omega)
      obtain ⟨x, hxl⟩ : ∃ x, L[f]? = some x := ⟨L[f], by simp⟩
      have hg : (L.map U8)[f]? = some (U8 x) := by simp [hxl]
      have ht := vl_tmod hL hxl
      have d3 : decide (vl L f = 1 + (i : Int)) = false := decide_eq_false hv
      have u3 : IntKind.i64.wrap first = first := wrap_i64 (by omega) (by omega)
      have u4 : IntKind.i64.wrap (first + (f : Int)) = first + f := wrap_i64 (by omega) (by omega)
      have u5 : (first + (f : Int)).tmod 65536 = (first + (f : Int)) % 65536 := Int.tmod_eq_emod_of_nonneg (by omega)
      have u6 : IntKind.i64.wrap 1 = 1 := wrap_i64 (by omega) (by omega)
      have c2 := accept_ans r ((first + (f : Int)) % 65536) 0 (okR_seen hok)
      rw [accept, if_pos hok, if_pos harg, encR, hacc] at c2
      cases hDf : Dk L N b k i f with
      | true =>
        rw [hDf] at c2
        rw [hsame hDf] at c2 hrp'
        have hD' : (fun g => Dk L N b k i g || decide (g = f)) = Dk L N b k i := by
          funext g
          by_cases hgf : g = f
          · simp [hgf, hDf]
          · simp [hgf]
        rw [hD'] at hK hrp'
        simp only [heapJ, bxR] at hK ⊢
        (simp only [il12l0_go, il12l0b, go_sem, reduceIte, Nat.reduceEqDiff, Nat.reduceAdd, Int.reduceEq, Nat.reduceLeDiff, Nat.reduceLT, pol_inl, polInl, polSite, Nat.reduceBEq, Nat.reduceMul, Nat.reduceSub, Int.reduceToNat, Int.reduceLE, Int.reduceLT, Int.reduceAdd, Int.reduceSub, Int.reduceMul, Int.reduceNeg, Int.reduceDiv, Int.reduceMod, Int.reduceTDiv, Int.reduceTMod, pol_inlT, Int.reducePow, pol_inlS, binE_agg, binE_slc, binE_nil, binE_msn, slB_eq, slB_ne, eqV_app, eqR_eq, eqR_ne, rho_tmp, mkSl_app, raw12_9_1, eqT31, eqT65, eqT46, eqT50, hs', dd, hi, hx, hw, d1, d2, d3, hg, ht, u1, u2, u3, u4, u5, c2, hav] <;> (repeat' ((first | with_reducible refine brG_intro (fun hc => ?_) (fun hc => ?_) | with_reducible refine brC_intro (fun hc => ?_) (fun hc => ?_) | with_reducible refine c_opsD ?_ | with_reducible refine c_opsT ?_ | ((with_reducible refine and_crit ?_ ?_); rfl) | ((with_reducible refine crit_done ?_); rfl) | with_reducible refine mkC_go (fun _ => ?_) | with_reducible refine mkL_go (fun _ => ?_)) <;> (try simp only [Bool.not_eq_true', Bool.not_eq_false', Bool.not_true, Bool.not_false] at hc) <;> (first | simp only [hc, go_sem, reduceIte, Nat.reduceEqDiff, Nat.reduceAdd, Int.reduceEq, Nat.reduceLeDiff, Nat.reduceLT, pol_inl, polInl, polSite, Nat.reduceBEq, Nat.reduceMul, Nat.reduceSub, Int.reduceToNat, Int.reduceLE, Int.reduceLT, Int.reduceAdd, Int.reduceSub, Int.reduceMul, Int.reduceNeg, Int.reduceDiv, Int.reduceMod, Int.reduceTDiv, Int.reduceTMod, pol_inlT, Int.reducePow, pol_inlS, binE_agg, binE_slc, binE_nil, binE_msn, slB_eq, slB_ne, eqV_app, eqR_eq, eqR_ne, rho_tmp, mkSl_app, raw12_9_1, eqT31, eqT65, eqT46, eqT50, hs', dd, hi, hx, hw, d1, d2, d3, hg, ht, u1, u2, u3, u4, u5, c2, hav] | simp only [go_sem, reduceIte, Nat.reduceEqDiff, Nat.reduceAdd, Int.reduceEq, Nat.reduceLeDiff, Nat.reduceLT, pol_inl, polInl, polSite, Nat.reduceBEq, Nat.reduceMul, Nat.reduceSub, Int.reduceToNat, Int.reduceLE, Int.reduceLT, Int.reduceAdd, Int.reduceSub, Int.reduceMul, Int.reduceNeg, Int.reduceDiv, Int.reduceMod, Int.reduceTDiv, Int.reduceTMod, pol_inlT, Int.reducePow, pol_inlS, binE_agg, binE_slc, binE_nil, binE_msn, slB_eq, slB_ne, eqV_app, eqR_eq, eqR_ne, rho_tmp, mkSl_app, raw12_9_1, eqT31, eqT65, eqT46, eqT50, hs', dd, hi, hx, hw, d1, d2, d3, hg, ht, u1, u2, u3, u4, u5, c2, hav] | skip))))
        all_goals (refine hK _ _ ⟨?_, r, mr, hmr, rfl, hrp'⟩; simp only [go_sem, reduceIte, Nat.reduceEqDiff, Nat.reduceAdd, Int.reduceEq, Nat.reduceLeDiff, Nat.reduceLT, pol_inl, polInl, polSite, Nat.reduceBEq, Nat.reduceMul, Nat.reduceSub, Int.reduceToNat, Int.reduceLE, Int.reduceLT, Int.reduceAdd, Int.reduceSub, Int.reduceMul, Int.reduceNeg, Int.reduceDiv, Int.reduceMod, Int.reduceTDiv, Int.reduceTMod, pol_inlT, Int.reducePow, pol_inlS, hs', hw])
      | false =>
        rw [hDf] at c2
        have k1 := cntF_get hfN hDf
        have k2 := cntF_set (D := Dk L N b k i) hfN
        have hav2 : ∀ p : Nat → Bool, avoidAll p ((cnt N (fun g => Dk L N b k i g || decide (g = f))).map fI) = true := fun p => cntF_av _
        generalize acc r ((first + (f : Int)) % 65536) 0 = a at *
        simp only [heapJ, bxR] at hK ⊢
        (simp only [il12l0_go, il12l0b, go_sem, reduceIte, Nat.reduceEqDiff, Nat.reduceAdd, Int.reduceEq, Nat.reduceLeDiff, Nat.reduceLT, pol_inl, polInl, polSite, Nat.reduceBEq, Nat.reduceMul, Nat.reduceSub, Int.reduceToNat, Int.reduceLE, Int.reduceLT, Int.reduceAdd, Int.reduceSub, Int.reduceMul, Int.reduceNeg, Int.reduceDiv, Int.reduceMod, Int.reduceTDiv, Int.reduceTMod, pol_inlT, Int.reducePow, pol_inlS, binE_agg, binE_slc, binE_nil, binE_msn, slB_eq, slB_ne, eqV_app, eqR_eq, eqR_ne, rho_tmp, mkSl_app, raw12_9_1, eqT31, eqT65, eqT46, eqT50, hs', dd, hi, hx, hw, d1, d2, d3, hg, ht, u1, u2, u3, u4, u5, u6, c2, hav, hav2, k1, k2, hcl, hmr, hfN] <;> (repeat' ((first | with_reducible refine brG_intro (fun hc => ?_) (fun hc => ?_) | with_reducible refine brC_intro (fun hc => ?_) (fun hc => ?_) | with_reducible refine c_opsD ?_ | with_reducible refine c_opsT ?_ | ((with_reducible refine and_crit ?_ ?_); rfl) | ((with_reducible refine crit_done ?_); rfl) | with_reducible refine mkC_go (fun _ => ?_) | with_reducible refine mkL_go (fun _ => ?_)) <;> (try simp only [Bool.not_eq_true', Bool.not_eq_false', Bool.not_true, Bool.not_false] at hc) <;> (first | simp only [hc, go_sem, reduceIte, Nat.reduceEqDiff, Nat.reduceAdd, Int.reduceEq, Nat.reduceLeDiff, Nat.reduceLT, pol_inl, polInl, polSite, Nat.reduceBEq, Nat.reduceMul, Nat.reduceSub, Int.reduceToNat, Int.reduceLE, Int.reduceLT, Int.reduceAdd, Int.reduceSub, Int.reduceMul, Int.reduceNeg, Int.reduceDiv, Int.reduceMod, Int.reduceTDiv, Int.reduceTMod, pol_inlT, Int.reducePow, pol_inlS, binE_agg, binE_slc, binE_nil, binE_msn, slB_eq, slB_ne, eqV_app, eqR_eq, eqR_ne, rho_tmp, mkSl_app, raw12_9_1, eqT31, eqT65, eqT46, eqT50, hs', dd, hi, hx, hw, d1, d2, d3, hg, ht, u1, u2, u3, u4, u5, u6, c2, hav, hav2, k1, k2, hcl, hmr, hfN] | simp only [go_sem, reduceIte, Nat.reduceEqDiff, Nat.reduceAdd, Int.reduceEq, Nat.reduceLeDiff, Nat.reduceLT, pol_inl, polInl, polSite, Nat.reduceBEq, Nat.reduceMul, Nat.reduceSub, Int.reduceToNat, Int.reduceLE, Int.reduceLT, Int.reduceAdd, Int.reduceSub, Int.reduceMul, Int.reduceNeg, Int.reduceDiv, Int.reduceMod, Int.reduceTDiv, Int.reduceTMod, pol_inlT, Int.reducePow, pol_inlS, binE_agg, binE_slc, binE_nil, binE_msn, slB_eq, slB_ne, eqV_app, eqR_eq, eqR_ne, rho_tmp, mkSl_app, raw12_9_1, eqT31, eqT65, eqT46, eqT50, hs', dd, hi, hx, hw, d1, d2, d3, hg, ht, u1, u2, u3, u4, u5, u6, c2, hav, hav2, k1, k2, hcl, hmr, hfN] | skip))))
        all_goals (refine hK _ _ ⟨?_, a.1, N, Nat.le_refl _, rfl, hrp'⟩; simp only [go_sem, reduceIte, Nat.reduceEqDiff, Nat.reduceAdd, Int.reduceEq, Nat.reduceLeDiff, Nat.reduceLT, pol_inl, polInl, polSite, Nat.reduceBEq, Nat.reduceMul, Nat.reduceSub, Int.reduceToNat, Int.reduceLE, Int.reduceLT, Int.reduceAdd, Int.reduceSub, Int.reduceMul, Int.reduceNeg, Int.reduceDiv, Int.reduceMod, Int.reduceTDiv, Int.reduceTMod, pol_inlT, Int.reducePow, pol_inlS, hs', hw])
  · intro _ e h Y R _ ⟨hs', r, mr, hmr, hhp, hrp⟩ hK
    subst hhp
    (simp only [il12l0_go, il12l0b, go_sem, reduceIte, Nat.reduceEqDiff, Nat.reduceAdd, Int.reduceEq, Nat.reduceLeDiff, Nat.reduceLT, pol_inl, polInl, polSite, Nat.reduceBEq, Nat.reduceMul, Nat.reduceSub, Int.reduceToNat, Int.reduceLE, Int.reduceLT, Int.reduceAdd, Int.reduceSub, Int.reduceMul, Int.reduceNeg, Int.reduceDiv, Int.reduceMod, Int.reduceTDiv, Int.reduceTMod, pol_inlT, Int.reducePow, pol_inlS, binE_agg, binE_slc, binE_nil, binE_msn, slB_eq, slB_ne, eqV_app, eqR_eq, eqR_ne, rho_tmp, mkSl_app, raw12_9_1, eqT31, eqT65, eqT46, eqT50, hs'] <;> (repeat' ((first | with_reducible refine brG_intro (fun hc => ?_) (fun hc => ?_) | with_reducible refine brC_intro (fun hc => ?_) (fun hc => ?_) | with_reducible refine c_opsD ?_ | with_reducible refine c_opsT ?_ | ((with_reducible refine and_crit ?_ ?_); rfl) | ((with_reducible refine crit_done ?_); rfl) | with_reducible refine mkC_go (fun _ => ?_) | with_reducible refine mkL_go (fun _ => ?_)) <;> (try simp only [Bool.not_eq_true', Bool.not_eq_false', Bool.not_true, Bool.not_false] at hc) <;> (first | simp only [hc, go_sem, reduceIte, Nat.reduceEqDiff, Nat.reduceAdd, Int.reduceEq, Nat.reduceLeDiff, Nat.reduceLT, pol_inl, polInl, polSite, Nat.reduceBEq, Nat.reduceMul, Nat.reduceSub, Int.reduceToNat, Int.reduceLE, Int.reduceLT, Int.reduceAdd, Int.reduceSub, Int.reduceMul, Int.reduceNeg, Int.reduceDiv, Int.reduceMod, Int.reduceTDiv, Int.reduceTMod, pol_inlT, Int.reducePow, pol_inlS, binE_agg, binE_slc, binE_nil, binE_msn, slB_eq, slB_ne, eqV_app, eqR_eq, eqR_ne, rho_tmp, mkSl_app, raw12_9_1, eqT31, eqT65, eqT46, eqT50, hs'] | simp only [go_sem, reduceIte, Nat.reduceEqDiff, Nat.reduceAdd, Int.reduceEq, Nat.reduceLeDiff, Nat.reduceLT, pol_inl, polInl, polSite, Nat.reduceBEq, Nat.reduceMul, Nat.reduceSub, Int.reduceToNat, Int.reduceLE, Int.reduceLT, Int.reduceAdd, Int.reduceSub, Int.reduceMul, Int.reduceNeg, Int.reduceDiv, Int.reduceMod, Int.reduceTDiv, Int.reduceTMod, pol_inlT, Int.reducePow, pol_inlS, binE_agg, binE_slc, binE_nil, binE_msn, slB_eq, slB_ne, eqV_app, eqR_eq, eqR_ne, rho_tmp, mkSl_app, raw12_9_1, eqT31, eqT65, eqT46, eqT50, hs'] | skip))))
    all_goals (refine hK _ _ _ ⟨?_, rfl, r, mr, hmr, rfl, hrp⟩; simp only [go_sem, reduceIte, Nat.reduceEqDiff, Nat.reduceAdd, Int.reduceEq, Nat.reduceLeDiff, Nat.reduceLT, pol_inl, polInl, polSite, Nat.reduceBEq, Nat.reduceMul, Nat.reduceSub, Int.reduceToNat, Int.reduceLE, Int.reduceLT, Int.reduceAdd, Int.reduceSub, Int.reduceMul, Int.reduceNeg, Int.reduceDiv, Int.reduceMod, Int.reduceTDiv, Int.reduceTMod, pol_inlT, Int.reducePow, pol_inlS, hs'])
  · intro y e h ⟨h1, h2, h3⟩
    subst h2
    exact hR _ _ h1 h3

theorem recoverMerges_ans (length lag first : Int) (L : List Int) (h1 : 0 ≤ length ∧ length < 256) (h2 : 0 ≤ lag ∧ lag < 256) (h3 : 0 ≤ first ∧ first < 65536) (hL : ∀ x ∈ L, 0 ≤ x ∧ x < 256) :
    ans Try.prog pol 12 [.sc (.int .u8 length), .sc (.int .u8 lag), .sc (.int .u16 first), .sl false 1 (L.map U8)] = some (B true) := by
  have t1 : length.tmod 63 = length % 63 := Int.tmod_eq_emod_of_nonneg h1.1
  have w1 : IntKind.i64.wrap (length % 63) = length % 63 := wrap_i64 (by omega) (by omega)
  obtain ⟨n, hne⟩ : ∃ n, n = 2 + length % 63 := ⟨_, rfl⟩
  have w2 : IntKind.i64.wrap (2 + length % 63) = n := by rw [hne]; exact wrap_i64 (by omega) (by omega)
  have hn : 2 ≤ n ∧ n ≤ 64 := by omega
  clear hne
  have w3 : IntKind.i64.wrap lag = lag := wrap_i64 (by omega) (by omega)
  have w4 : IntKind.i64.wrap (n - 1) = n - 1 := wrap_i64 (by omega) (by omega)
  have hy : ¬ (n - 1 = 0) := by omega
  have t2 : lag.tmod (n - 1) = lag % (n - 1) := Int.tmod_eq_emod_of_nonneg h2.1
  have hb1 := Int.emod_nonneg lag hy
  have hb2 := Int.emod_lt_of_pos lag (show 0 < n - 1 by omega)
  obtain ⟨b, hb⟩ := Int.eq_ofNat_of_zero_le hb1
  rw [hb] at t2 hb2
  have c1 := new_ans n 1
  have qn : limR ⟨n, 1, true, 0, 0, 0⟩ := ⟨by show 1 ≤ n; omega, hn.2, by show (1 : Int) ≤ 1; omega, by show (1 : Int) ≤ 1099511627776; omega⟩
  rw [if_pos qn, encR] at c1
  have hmin : (if (150 : Int) < (L.length : Nat) then 150 else ((L.length : Nat) : Int)) = ((min L.length 150 : Nat) : Int) := by split <;> omega
  have hN1 : min L.length 150 ≤ L.length := Nat.min_le_left _ _
  have hN2 : min L.length 150 ≤ 150 := Nat.min_le_right _ _
  generalize min L.length 150 = N at hmin hN1 hN2
  have hroom : 8 * N ≤ roomB := by rw [Nat.mul_comm]; exact ap_room (by omega) (by omega)
  have hroom2 : N ≤ 9223372036854775807 := by omega
  have w5 : IntKind.i64.wrap ((N : Int) + (b : Int)) = ((N + b : Nat) : Int) := by rw [wrap_i64 (by omega) (by omega)]; simp
  have hz : List.replicate N (AV.t (I 0)) = (cnt N (fun _ => false)).map fI := by
    refine List.ext_getElem? fun i => ?_
    by_cases hi : i < N
    · rw [List.getElem?_map, cnt_get hi]; simp [hi, fI]
    · rw [List.getElem?_eq_none_iff.2 (by simp; omega), List.getElem?_eq_none_iff.2 (by simp [cnt_len]; omega)]
  have hD0 : DD L N b 0 0 = fun _ => false := by funext f; simp [DD]
  refine ans_go 400 1 il12_eq (Nat.le_of_ble_eq_true rfl) ?_
  (simp only [il12c, go_sem, reduceIte, Nat.reduceEqDiff, Nat.reduceAdd, Int.reduceEq, Nat.reduceLeDiff, Nat.reduceLT, pol_inl, polInl, polSite, Nat.reduceBEq, Nat.reduceMul, Nat.reduceSub, Int.reduceToNat, Int.reduceLE, Int.reduceLT, Int.reduceAdd, Int.reduceSub, Int.reduceMul, Int.reduceNeg, Int.reduceDiv, Int.reduceMod, Int.reduceTDiv, Int.reduceTMod, pol_inlT, Int.reducePow, pol_inlS, binE_agg, binE_slc, binE_nil, binE_msn, slB_eq, slB_ne, eqV_app, eqR_eq, eqR_ne, rho_tmp, mkSl_app, raw12_9_1, eqT31, eqT65, eqT46, eqT50, works40_ans, t1, w1, w2, w3, w4, hy, t2, c1, hmin, hroom, hroom2, w5] <;> (repeat' ((first | with_reducible refine brG_intro (fun hc => ?_) (fun hc => ?_) | with_reducible refine brC_intro (fun hc => ?_) (fun hc => ?_) | with_reducible refine c_opsD ?_ | with_reducible refine c_opsT ?_ | ((with_reducible refine and_crit ?_ ?_); rfl) | ((with_reducible refine crit_done ?_); rfl) | with_reducible refine mkC_go (fun _ => ?_) | with_reducible refine mkL_go (fun _ => ?_)) <;> (try simp only [Bool.not_eq_true', Bool.not_eq_false', Bool.not_true, Bool.not_false] at hc) <;> (first | simp only [hc, go_sem, reduceIte, Nat.reduceEqDiff, Nat.reduceAdd, Int.reduceEq, Nat.reduceLeDiff, Nat.reduceLT, pol_inl, polInl, polSite, Nat.reduceBEq, Nat.reduceMul, Nat.reduceSub, Int.reduceToNat, Int.reduceLE, Int.reduceLT, Int.reduceAdd, Int.reduceSub, Int.reduceMul, Int.reduceNeg, Int.reduceDiv, Int.reduceMod, Int.reduceTDiv, Int.reduceTMod, pol_inlT, Int.reducePow, pol_inlS, binE_agg, binE_slc, binE_nil, binE_msn, slB_eq, slB_ne, eqV_app, eqR_eq, eqR_ne, rho_tmp, mkSl_app, raw12_9_1, eqT31, eqT65, eqT46, eqT50, works40_ans, t1, w1, w2, w3, w4, hy, t2, c1, hmin, hroom, hroom2, w5] | simp only [go_sem, reduceIte, Nat.reduceEqDiff, Nat.reduceAdd, Int.reduceEq, Nat.reduceLeDiff, Nat.reduceLT, pol_inl, polInl, polSite, Nat.reduceBEq, Nat.reduceMul, Nat.reduceSub, Int.reduceToNat, Int.reduceLE, Int.reduceLT, Int.reduceAdd, Int.reduceSub, Int.reduceMul, Int.reduceNeg, Int.reduceDiv, Int.reduceMod, Int.reduceTDiv, Int.reduceTMod, pol_inlT, Int.reducePow, pol_inlS, binE_agg, binE_slc, binE_nil, binE_msn, slB_eq, slB_ne, eqV_app, eqR_eq, eqR_ne, rho_tmp, mkSl_app, raw12_9_1, eqT31, eqT65, eqT46, eqT50, works40_ans, t1, w1, w2, w3, w4, hy, t2, c1, hmin, hroom, hroom2, w5] | skip))))
  refine loop_upto (N + b) (step := fun k (_ : Unit) => Ctl.go ()) (fin := id)
    (St := fun k _ e h => (e 2 = .t (.sc (.int .u16 first)) ∧ e 3 = .t (.sl false 1 (L.map U8)) ∧ e 10 = .t (I b) ∧ e 11 = .ref 0 1 0 0 ∧ e 13 = .t (I N) ∧ e 14 = .ms 1 N 0 N 1 true ∧ e 48 = .t (I ((N + b : Nat) : Int)) ∧ e 49 = .t (I (k : Nat))) ∧ ∃ r mr, mr ≤ N ∧ h = heapJ N r (DD L N b k k) mr ∧ Rp n first r (DD L N b k k))
    (Ex := fun _ y e h => e 14 = .ms 1 N 0 N 1 true ∧ y = .exit 0 ∧ ∃ r mr, mr ≤ N ∧ h = heapJ N r (DD L N b (N + b) (N + b)) mr) (s := ()) (by omega) ?_ ?_ (by omega) ?_ ?_
  · intro k _ e h Y R hk hlt hw ⟨hs', hh⟩ hK
    simp only [ctlK_go] at hK
    have w6 : IntKind.i64.wrap ((k : Int) - (b : Int)) = (k : Int) - b := wrap_i64 (by omega) (by omega)
    have hlen : h.length = 2 := by obtain ⟨r, mr, _, hh, _⟩ := hh; rw [hh]; rfl
    (simp only [il12l1_go, il12l1b, go_sem, reduceIte, Nat.reduceEqDiff, Nat.reduceAdd, Int.reduceEq, Nat.reduceLeDiff, Nat.reduceLT, pol_inl, polInl, polSite, Nat.reduceBEq, Nat.reduceMul, Nat.reduceSub, Int.reduceToNat, Int.reduceLE, Int.reduceLT, Int.reduceAdd, Int.reduceSub, Int.reduceMul, Int.reduceNeg, Int.reduceDiv, Int.reduceMod, Int.reduceTDiv, Int.reduceTMod, pol_inlT, Int.reducePow, pol_inlS, binE_agg, binE_slc, binE_nil, binE_msn, slB_eq, slB_ne, eqV_app, eqR_eq, eqR_ne, rho_tmp, mkSl_app, raw12_9_1, eqT31, eqT65, eqT46, eqT50, hs', hlt, hw, w6, hlen] <;> (repeat' ((first | with_reducible refine brG_intro (fun hc => ?_) (fun hc => ?_) | with_reducible refine brC_intro (fun hc => ?_) (fun hc => ?_) | with_reducible refine c_opsD ?_ | with_reducible refine c_opsT ?_ | ((with_reducible refine and_crit ?_ ?_); rfl) | ((with_reducible refine crit_done ?_); rfl) | with_reducible refine mkC_go (fun _ => ?_) | with_reducible refine mkL_go (fun _ => ?_)) <;> (try simp only [Bool.not_eq_true', Bool.not_eq_false', Bool.not_true, Bool.not_false] at hc) <;> (first | simp only [hc, go_sem, reduceIte, Nat.reduceEqDiff, Nat.reduceAdd, Int.reduceEq, Nat.reduceLeDiff, Nat.reduceLT, pol_inl, polInl, polSite, Nat.reduceBEq, Nat.reduceMul, Nat.reduceSub, Int.reduceToNat, Int.reduceLE, Int.reduceLT, Int.reduceAdd, Int.reduceSub, Int.reduceMul, Int.reduceNeg, Int.reduceDiv, Int.reduceMod, Int.reduceTDiv, Int.reduceTMod, pol_inlT, Int.reducePow, pol_inlS, binE_agg, binE_slc, binE_nil, binE_msn, slB_eq, slB_ne, eqV_app, eqR_eq, eqR_ne, rho_tmp, mkSl_app, raw12_9_1, eqT31, eqT65, eqT46, eqT50, hs', hlt, hw, w6, hlen] | simp only [go_sem, reduceIte, Nat.reduceEqDiff, Nat.reduceAdd, Int.reduceEq, Nat.reduceLeDiff, Nat.reduceLT, pol_inl, polInl, polSite, Nat.reduceBEq, Nat.reduceMul, Nat.reduceSub, Int.reduceToNat, Int.reduceLE, Int.reduceLT, Int.reduceAdd, Int.reduceSub, Int.reduceMul, Int.reduceNeg, Int.reduceDiv, Int.reduceMod, Int.reduceTDiv, Int.reduceTMod, pol_inlT, Int.reducePow, pol_inlS, binE_agg, binE_slc, binE_nil, binE_msn, slB_eq, slB_ne, eqV_app, eqR_eq, eqR_ne, rho_tmp, mkSl_app, raw12_9_1, eqT31, eqT65, eqT46, eqT50, hs', hlt, hw, w6, hlen] | skip))))
    refine merges_l0 L hL N b k hN1 hN2 n first (by omega) (by omega) h3 (I ((N + b : Nat) : Int)) (I (k : Nat)) (by omega) _ _ _ _ _ (by simp only [go_sem, reduceIte, Nat.reduceEqDiff, Nat.reduceAdd, Int.reduceEq, Nat.reduceLeDiff, Nat.reduceLT, pol_inl, polInl, polSite, Nat.reduceBEq, Nat.reduceMul, Nat.reduceSub, Int.reduceToNat, Int.reduceLE, Int.reduceLT, Int.reduceAdd, Int.reduceSub, Int.reduceMul, Int.reduceNeg, Int.reduceDiv, Int.reduceMod, Int.reduceTDiv, Int.reduceTMod, pol_inlT, Int.reducePow, pol_inlS, hs']) hh ?_
    intro e' h' he' hh'
    have hlen' : h'.length ≤ 2 := by obtain ⟨r, mr, _, hh, _⟩ := hh'; rw [hh]; exact Nat.le_refl _
    (simp only [il12l1_go, il12l1b, go_sem, reduceIte, Nat.reduceEqDiff, Nat.reduceAdd, Int.reduceEq, Nat.reduceLeDiff, Nat.reduceLT, pol_inl, polInl, polSite, Nat.reduceBEq, Nat.reduceMul, Nat.reduceSub, Int.reduceToNat, Int.reduceLE, Int.reduceLT, Int.reduceAdd, Int.reduceSub, Int.reduceMul, Int.reduceNeg, Int.reduceDiv, Int.reduceMod, Int.reduceTDiv, Int.reduceTMod, pol_inlT, Int.reducePow, pol_inlS, binE_agg, binE_slc, binE_nil, binE_msn, slB_eq, slB_ne, eqV_app, eqR_eq, eqR_ne, rho_tmp, mkSl_app, raw12_9_1, eqT31, eqT65, eqT46, eqT50, he', hw, hlen'] <;> (repeat' ((first | with_reducible refine brG_intro (fun hc => ?_) (fun hc => ?_) | with_reducible refine brC_intro (fun hc => ?_) (fun hc => ?_) | with_reducible refine c_opsD ?_ | with_reducible refine c_opsT ?_ | ((with_reducible refine and_crit ?_ ?_); rfl) | ((with_reducible refine crit_done ?_); rfl) | with_reducible refine mkC_go (fun _ => ?_) | with_reducible refine mkL_go (fun _ => ?_)) <;> (try simp only [Bool.not_eq_true', Bool.not_eq_false', Bool.not_true, Bool.not_false] at hc) <;> (first | simp only [hc, go_sem, reduceIte, Nat.reduceEqDiff, Nat.reduceAdd, Int.reduceEq, Nat.reduceLeDiff, Nat.reduceLT, pol_inl, polInl, polSite, Nat.reduceBEq, Nat.reduceMul, Nat.reduceSub, Int.reduceToNat, Int.reduceLE, Int.reduceLT, Int.reduceAdd, Int.reduceSub, Int.reduceMul, Int.reduceNeg, Int.reduceDiv, Int.reduceMod, Int.reduceTDiv, Int.reduceTMod, pol_inlT, Int.reducePow, pol_inlS, binE_agg, binE_slc, binE_nil, binE_msn, slB_eq, slB_ne, eqV_app, eqR_eq, eqR_ne, rho_tmp, mkSl_app, raw12_9_1, eqT31, eqT65, eqT46, eqT50, he', hw, hlen'] | simp only [go_sem, reduceIte, Nat.reduceEqDiff, Nat.reduceAdd, Int.reduceEq, Nat.reduceLeDiff, Nat.reduceLT, pol_inl, polInl, polSite, Nat.reduceBEq, Nat.reduceMul, Nat.reduceSub, Int.reduceToNat, Int.reduceLE, Int.reduceLT, Int.reduceAdd, Int.reduceSub, Int.reduceMul, Int.reduceNeg, Int.reduceDiv, Int.reduceMod, Int.reduceTDiv, Int.reduceTMod, pol_inlT, Int.reducePow, pol_inlS, binE_agg, binE_slc, binE_nil, binE_msn, slB_eq, slB_ne, eqV_app, eqR_eq, eqR_ne, rho_tmp, mkSl_app, raw12_9_1, eqT31, eqT65, eqT46, eqT50, he', hw, hlen'] | skip))))
    all_goals (refine hK _ _ ⟨?_, hh'⟩; simp only [go_sem, reduceIte, Nat.reduceEqDiff, Nat.reduceAdd, Int.reduceEq, Nat.reduceLeDiff, Nat.reduceLT, pol_inl, polInl, polSite, Nat.reduceBEq, Nat.reduceMul, Nat.reduceSub, Int.reduceToNat, Int.reduceLE, Int.reduceLT, Int.reduceAdd, Int.reduceSub, Int.reduceMul, Int.reduceNeg, Int.reduceDiv, Int.reduceMod, Int.reduceTDiv, Int.reduceTMod, pol_inlT, Int.reducePow, pol_inlS, he', hw])
  · intro _ e h Y R hlt ⟨hs', r, mr, hmr, hh, hrp⟩ hK
    (simp only [il12l1_go, il12l1b, go_sem, reduceIte, Nat.reduceEqDiff, Nat.reduceAdd, Int.reduceEq, Nat.reduceLeDiff, Nat.reduceLT, pol_inl, polInl, polSite, Nat.reduceBEq, Nat.reduceMul, Nat.reduceSub, Int.reduceToNat, Int.reduceLE, Int.reduceLT, Int.reduceAdd, Int.reduceSub, Int.reduceMul, Int.reduceNeg, Int.reduceDiv, Int.reduceMod, Int.reduceTDiv, Int.reduceTMod, pol_inlT, Int.reducePow, pol_inlS, binE_agg, binE_slc, binE_nil, binE_msn, slB_eq, slB_ne, eqV_app, eqR_eq, eqR_ne, rho_tmp, mkSl_app, raw12_9_1, eqT31, eqT65, eqT46, eqT50, hs', hlt] <;> (repeat' ((first | with_reducible refine brG_intro (fun hc => ?_) (fun hc => ?_) | with_reducible refine brC_intro (fun hc => ?_) (fun hc => ?_) | with_reducible refine c_opsD ?_ | with_reducible refine c_opsT ?_ | ((with_reducible refine and_crit ?_ ?_); rfl) | ((with_reducible refine crit_done ?_); rfl) | with_reducible refine mkC_go (fun _ => ?_) | with_reducible refine mkL_go (fun _ => ?_)) <;> (try simp only [Bool.not_eq_true', Bool.not_eq_false', Bool.not_true, Bool.not_false] at hc) <;> (first | simp only [hc, go_sem, reduceIte, Nat.reduceEqDiff, Nat.reduceAdd, Int.reduceEq, Nat.reduceLeDiff, Nat.reduceLT, pol_inl, polInl, polSite, Nat.reduceBEq, Nat.reduceMul, Nat.reduceSub, Int.reduceToNat, Int.reduceLE, Int.reduceLT, Int.reduceAdd, Int.reduceSub, Int.reduceMul, Int.reduceNeg, Int.reduceDiv, Int.reduceMod, Int.reduceTDiv, Int.reduceTMod, pol_inlT, Int.reducePow, pol_inlS, binE_agg, binE_slc, binE_nil, binE_msn, slB_eq, slB_ne, eqV_app, eqR_eq, eqR_ne, rho_tmp, mkSl_app, raw12_9_1, eqT31, eqT65, eqT46, eqT50, hs', hlt] | simp only [go_sem, reduceIte, Nat.reduceEqDiff, Nat.reduceAdd, Int.reduceEq, Nat.reduceLeDiff, Nat.reduceLT, pol_inl, polInl, polSite, Nat.reduceBEq, Nat.reduceMul, Nat.reduceSub, Int.reduceToNat, Int.reduceLE, Int.reduceLT, Int.reduceAdd, Int.reduceSub, Int.reduceMul, Int.reduceNeg, Int.reduceDiv, Int.reduceMod, Int.reduceTDiv, Int.reduceTMod, pol_inlT, Int.reducePow, pol_inlS, binE_agg, binE_slc, binE_nil, binE_msn, slB_eq, slB_ne, eqV_app, eqR_eq, eqR_ne, rho_tmp, mkSl_app, raw12_9_1, eqT31, eqT65, eqT46, eqT50, hs', hlt] | skip))))
    all_goals (refine hK _ _ _ ⟨?_, rfl, r, mr, hmr, hh⟩; simp only [go_sem, reduceIte, Nat.reduceEqDiff, Nat.reduceAdd, Int.reduceEq, Nat.reduceLeDiff, Nat.reduceLT, pol_inl, polInl, polSite, Nat.reduceBEq, Nat.reduceMul, Nat.reduceSub, Int.reduceToNat, Int.reduceLE, Int.reduceLT, Int.reduceAdd, Int.reduceSub, Int.reduceMul, Int.reduceNeg, Int.reduceDiv, Int.reduceMod, Int.reduceTDiv, Int.reduceTMod, pol_inlT, Int.reducePow, pol_inlS, hs'])
  · refine ⟨?_, ⟨n, 1, true, 0, 0, 0⟩, 0, by omega, ?_, .inl ⟨fun f => by rw [hD0], rfl⟩⟩
    · simp only [go_sem, reduceIte, Nat.reduceEqDiff, Nat.reduceAdd, Int.reduceEq, Nat.reduceLeDiff, Nat.reduceLT, pol_inl, polInl, polSite, Nat.reduceBEq, Nat.reduceMul, Nat.reduceSub, Int.reduceToNat, Int.reduceLE, Int.reduceLT, Int.reduceAdd, Int.reduceSub, Int.reduceMul, Int.reduceNeg, Int.reduceDiv, Int.reduceMod, Int.reduceTDiv, Int.reduceTMod, pol_inlT, Int.reducePow, pol_inlS]
    · rw [hD0, heapJ, ← hz]; rfl
  · intro y e h ⟨e14, hy', r, mr, hmr, hh⟩
    subst hy' hh
    have hcl := cnt_len N (DD L N b (N + b) (N + b))
    have hall : ∀ f, f < N → DD L N b (N + b) (N + b) f = true := by
      intro f hf
      simp only [DD, Bool.and_eq_true, Bool.or_eq_true, decide_eq_true_eq, Bool.not_eq_true', decide_eq_false_iff_not]
      refine ⟨hf, ?_⟩
      by_cases hv : vl L f = 1
      · exact .inr ⟨by omega, by omega⟩
      · exact .inl ⟨by omega, hv⟩
    simp only [heapJ]
    (simp only [il12c, go_sem, reduceIte, Nat.reduceEqDiff, Nat.reduceAdd, Int.reduceEq, Nat.reduceLeDiff, Nat.reduceLT, pol_inl, polInl, polSite, Nat.reduceBEq, Nat.reduceMul, Nat.reduceSub, Int.reduceToNat, Int.reduceLE, Int.reduceLT, Int.reduceAdd, Int.reduceSub, Int.reduceMul, Int.reduceNeg, Int.reduceDiv, Int.reduceMod, Int.reduceTDiv, Int.reduceTMod, pol_inlT, Int.reducePow, pol_inlS, binE_agg, binE_slc, binE_nil, binE_msn, slB_eq, slB_ne, eqV_app, eqR_eq, eqR_ne, rho_tmp, mkSl_app, raw12_9_1, eqT31, eqT65, eqT46, eqT50, e14] <;> (repeat' ((first | with_reducible refine brG_intro (fun hc => ?_) (fun hc => ?_) | with_reducible refine brC_intro (fun hc => ?_) (fun hc => ?_) | with_reducible refine c_opsD ?_ | with_reducible refine c_opsT ?_ | ((with_reducible refine and_crit ?_ ?_); rfl) | ((with_reducible refine crit_done ?_); rfl) | with_reducible refine mkC_go (fun _ => ?_) | with_reducible refine mkL_go (fun _ => ?_)) <;> (try simp only [Bool.not_eq_true', Bool.not_eq_false', Bool.not_true, Bool.not_false] at hc) <;> (first | simp only [hc, go_sem, reduceIte, Nat.reduceEqDiff, Nat.reduceAdd, Int.reduceEq, Nat.reduceLeDiff, Nat.reduceLT, pol_inl, polInl, polSite, Nat.reduceBEq, Nat.reduceMul, Nat.reduceSub, Int.reduceToNat, Int.reduceLE, Int.reduceLT, Int.reduceAdd, Int.reduceSub, Int.reduceMul, Int.reduceNeg, Int.reduceDiv, Int.reduceMod, Int.reduceTDiv, Int.reduceTMod, pol_inlT, Int.reducePow, pol_inlS, binE_agg, binE_slc, binE_nil, binE_msn, slB_eq, slB_ne, eqV_app, eqR_eq, eqR_ne, rho_tmp, mkSl_app, raw12_9_1, eqT31, eqT65, eqT46, eqT50, e14] | simp only [go_sem, reduceIte, Nat.reduceEqDiff, Nat.reduceAdd, Int.reduceEq, Nat.reduceLeDiff, Nat.reduceLT, pol_inl, polInl, polSite, Nat.reduceBEq, Nat.reduceMul, Nat.reduceSub, Int.reduceToNat, Int.reduceLE, Int.reduceLT, Int.reduceAdd, Int.reduceSub, Int.reduceMul, Int.reduceNeg, Int.reduceDiv, Int.reduceMod, Int.reduceTDiv, Int.reduceTMod, pol_inlT, Int.reducePow, pol_inlS, binE_agg, binE_slc, binE_nil, binE_msn, slB_eq, slB_ne, eqV_app, eqR_eq, eqR_ne, rho_tmp, mkSl_app, raw12_9_1, eqT31, eqT65, eqT46, eqT50, e14] | skip))))
    refine loop_upto N (step := fun k (_ : Unit) => Ctl.go ()) (fin := id)
      (St := fun k _ e h => (e 102 = .ms 1 N 0 N 1 true ∧ e 103 = .t (I N) ∧ e 104 = .t (I (k : Nat))) ∧ h = [bxR r, .row 1 ((cnt N (DD L N b (N + b) (N + b))).map fI) mr])
      (Ex := fun _ y e h => y = .exit 4) (s := ()) (by omega) ?_ ?_ (by omega) ?_ ?_
    · intro k _ e h Y R hk hlt hw ⟨hs', hh⟩ hK
      subst hh
      simp only [ctlK_go] at hK
      have hg : ((cnt N (DD L N b (N + b) (N + b))).map fI)[k]? = some (.t (I 1)) := by rw [List.getElem?_map, cnt_get hk, hall k hk]; rfl
      (simp only [il12l2_go, il12l2b, go_sem, reduceIte, Nat.reduceEqDiff, Nat.reduceAdd, Int.reduceEq, Nat.reduceLeDiff, Nat.reduceLT, pol_inl, polInl, polSite, Nat.reduceBEq, Nat.reduceMul, Nat.reduceSub, Int.reduceToNat, Int.reduceLE, Int.reduceLT, Int.reduceAdd, Int.reduceSub, Int.reduceMul, Int.reduceNeg, Int.reduceDiv, Int.reduceMod, Int.reduceTDiv, Int.reduceTMod, pol_inlT, Int.reducePow, pol_inlS, binE_agg, binE_slc, binE_nil, binE_msn, slB_eq, slB_ne, eqV_app, eqR_eq, eqR_ne, rho_tmp, mkSl_app, raw12_9_1, eqT31, eqT65, eqT46, eqT50, hs', hlt, hw, hg, hcl, hmr, hk] <;> (repeat' ((first | with_reducible refine brG_intro (fun hc => ?_) (fun hc => ?_) | with_reducible refine brC_intro (fun hc => ?_) (fun hc => ?_) | with_reducible refine c_opsD ?_ | with_reducible refine c_opsT ?_ | ((with_reducible refine and_crit ?_ ?_); rfl) | ((with_reducible refine crit_done ?_); rfl) | with_reducible refine mkC_go (fun _ => ?_) | with_reducible refine mkL_go (fun _ => ?_)) <;> (try simp only [Bool.not_eq_true', Bool.not_eq_false', Bool.not_true, Bool.not_false] at hc) <;> (first | simp only [hc, go_sem, reduceIte, Nat.reduceEqDiff, Nat.reduceAdd, Int.reduceEq, Nat.reduceLeDiff, Nat.reduceLT, pol_inl, polInl, polSite, Nat.reduceBEq, Nat.reduceMul, Nat.reduceSub, Int.reduceToNat, Int.reduceLE, Int.reduceLT, Int.reduceAdd, Int.reduceSub, Int.reduceMul, Int.reduceNeg, Int.reduceDiv, Int.reduceMod, Int.reduceTDiv, Int.reduceTMod, pol_inlT, Int.reducePow, pol_inlS, binE_agg, binE_slc, binE_nil, binE_msn, slB_eq, slB_ne, eqV_app, eqR_eq, eqR_ne, rho_tmp, mkSl_app, raw12_9_1, eqT31, eqT65, eqT46, eqT50, hs', hlt, hw, hg, hcl, hmr, hk] | simp only [go_sem, reduceIte, Nat.reduceEqDiff, Nat.reduceAdd, Int.reduceEq, Nat.reduceLeDiff, Nat.reduceLT, pol_inl, polInl, polSite, Nat.reduceBEq, Nat.reduceMul, Nat.reduceSub, Int.reduceToNat, Int.reduceLE, Int.reduceLT, Int.reduceAdd, Int.reduceSub, Int.reduceMul, Int.reduceNeg, Int.reduceDiv, Int.reduceMod, Int.reduceTDiv, Int.reduceTMod, pol_inlT, Int.reducePow, pol_inlS, binE_agg, binE_slc, binE_nil, binE_msn, slB_eq, slB_ne, eqV_app, eqR_eq, eqR_ne, rho_tmp, mkSl_app, raw12_9_1, eqT31, eqT65, eqT46, eqT50, hs', hlt, hw, hg, hcl, hmr, hk] | skip))))
      all_goals (refine hK _ _ ⟨?_, rfl⟩; simp only [go_sem, reduceIte, Nat.reduceEqDiff, Nat.reduceAdd, Int.reduceEq, Nat.reduceLeDiff, Nat.reduceLT, pol_inl, polInl, polSite, Nat.reduceBEq, Nat.reduceMul, Nat.reduceSub, Int.reduceToNat, Int.reduceLE, Int.reduceLT, Int.reduceAdd, Int.reduceSub, Int.reduceMul, Int.reduceNeg, Int.reduceDiv, Int.reduceMod, Int.reduceTDiv, Int.reduceTMod, pol_inlT, Int.reducePow, pol_inlS, hs', hw])
    · intro _ e h Y R hlt ⟨hs', hh⟩ hK
      subst hh
      (simp only [il12l2_go, il12l2b, go_sem, reduceIte, Nat.reduceEqDiff, Nat.reduceAdd, Int.reduceEq, Nat.reduceLeDiff, Nat.reduceLT, pol_inl, polInl, polSite, Nat.reduceBEq, Nat.reduceMul, Nat.reduceSub, Int.reduceToNat, Int.reduceLE, Int.reduceLT, Int.reduceAdd, Int.reduceSub, Int.reduceMul, Int.reduceNeg, Int.reduceDiv, Int.reduceMod, Int.reduceTDiv, Int.reduceTMod, pol_inlT, Int.reducePow, pol_inlS, binE_agg, binE_slc, binE_nil, binE_msn, slB_eq, slB_ne, eqV_app, eqR_eq, eqR_ne, rho_tmp, mkSl_app, raw12_9_1, eqT31, eqT65, eqT46, eqT50, hs', hlt] <;> (repeat' ((first | with_reducible refine brG_intro (fun hc => ?_) (fun hc => ?_) | with_reducible refine brC_intro (fun hc => ?_) (fun hc => ?_) | with_reducible refine c_opsD ?_ | with_reducible refine c_opsT ?_ | ((with_reducible refine and_crit ?_ ?_); rfl) | ((with_reducible refine crit_done ?_); rfl) | with_reducible refine mkC_go (fun _ => ?_) | with_reducible refine mkL_go (fun _ => ?_)) <;> (try simp only [Bool.not_eq_true', Bool.not_eq_false', Bool.not_true, Bool.not_false] at hc) <;> (first | simp only [hc, go_sem, reduceIte, Nat.reduceEqDiff, Nat.reduceAdd, Int.reduceEq, Nat.reduceLeDiff, Nat.reduceLT, pol_inl, polInl, polSite, Nat.reduceBEq, Nat.reduceMul, Nat.reduceSub, Int.reduceToNat, Int.reduceLE, Int.reduceLT, Int.reduceAdd, Int.reduceSub, Int.reduceMul, Int.reduceNeg, Int.reduceDiv, Int.reduceMod, Int.reduceTDiv, Int.reduceTMod, pol_inlT, Int.reducePow, pol_inlS, binE_agg, binE_slc, binE_nil, binE_msn, slB_eq, slB_ne, eqV_app, eqR_eq, eqR_ne, rho_tmp, mkSl_app, raw12_9_1, eqT31, eqT65, eqT46, eqT50, hs', hlt] | simp only [go_sem, reduceIte, Nat.reduceEqDiff, Nat.reduceAdd, Int.reduceEq, Nat.reduceLeDiff, Nat.reduceLT, pol_inl, polInl, polSite, Nat.reduceBEq, Nat.reduceMul, Nat.reduceSub, Int.reduceToNat, Int.reduceLE, Int.reduceLT, Int.reduceAdd, Int.reduceSub, Int.reduceMul, Int.reduceNeg, Int.reduceDiv, Int.reduceMod, Int.reduceTDiv, Int.reduceTMod, pol_inlT, Int.reducePow, pol_inlS, binE_agg, binE_slc, binE_nil, binE_msn, slB_eq, slB_ne, eqV_app, eqR_eq, eqR_ne, rho_tmp, mkSl_app, raw12_9_1, eqT31, eqT65, eqT46, eqT50, hs', hlt] | skip))))
      all_goals (refine hK _ _ _ ?_; simp only [go_sem, reduceIte, Nat.reduceEqDiff, Nat.reduceAdd, Int.reduceEq, Nat.reduceLeDiff, Nat.reduceLT, pol_inl, polInl, polSite, Nat.reduceBEq, Nat.reduceMul, Nat.reduceSub, Int.reduceToNat, Int.reduceLE, Int.reduceLT, Int.reduceAdd, Int.reduceSub, Int.reduceMul, Int.reduceNeg, Int.reduceDiv, Int.reduceMod, Int.reduceTDiv, Int.reduceTMod, pol_inlT, Int.reducePow, pol_inlS])
    · simp only [go_sem, reduceIte, Nat.reduceEqDiff, Nat.reduceAdd, Int.reduceEq, Nat.reduceLeDiff, Nat.reduceLT, pol_inl, polInl, polSite, Nat.reduceBEq, Nat.reduceMul, Nat.reduceSub, Int.reduceToNat, Int.reduceLE, Int.reduceLT, Int.reduceAdd, Int.reduceSub, Int.reduceMul, Int.reduceNeg, Int.reduceDiv, Int.reduceMod, Int.reduceTDiv, Int.reduceTMod, pol_inlT, Int.reducePow, pol_inlS]
    · intro y e h hy'
      subst hy'
      (simp only [il12c, go_sem, reduceIte, Nat.reduceEqDiff, Nat.reduceAdd, Int.reduceEq, Nat.reduceLeDiff, Nat.reduceLT, pol_inl, polInl, polSite, Nat.reduceBEq, Nat.reduceMul, Nat.reduceSub, Int.reduceToNat, Int.reduceLE, Int.reduceLT, Int.reduceAdd, Int.reduceSub, Int.reduceMul, Int.reduceNeg, Int.reduceDiv, Int.reduceMod, Int.reduceTDiv, Int.reduceTMod, pol_inlT, Int.reducePow, pol_inlS, binE_agg, binE_slc, binE_nil, binE_msn, slB_eq, slB_ne, eqV_app, eqR_eq, eqR_ne, rho_tmp, mkSl_app, raw12_9_1, eqT31, eqT65, eqT46, eqT50] <;> (repeat' ((first | with_reducible refine brG_intro (fun hc => ?_) (fun hc => ?_) | with_reducible refine brC_intro (fun hc => ?_) (fun hc => ?_) | with_reducible refine c_opsD ?_ | with_reducible refine c_opsT ?_ | ((with_reducible refine and_crit ?_ ?_); rfl) | ((with_reducible refine crit_done ?_); rfl) | with_reducible refine mkC_go (fun _ => ?_) | with_reducible refine mkL_go (fun _ => ?_)) <;> (try simp only [Bool.not_eq_true', Bool.not_eq_false', Bool.not_true, Bool.not_false] at hc) <;> (first | simp only [hc, go_sem, reduceIte, Nat.reduceEqDiff, Nat.reduceAdd, Int.reduceEq, Nat.reduceLeDiff, Nat.reduceLT, pol_inl, polInl, polSite, Nat.reduceBEq, Nat.reduceMul, Nat.reduceSub, Int.reduceToNat, Int.reduceLE, Int.reduceLT, Int.reduceAdd, Int.reduceSub, Int.reduceMul, Int.reduceNeg, Int.reduceDiv, Int.reduceMod, Int.reduceTDiv, Int.reduceTMod, pol_inlT, Int.reducePow, pol_inlS, binE_agg, binE_slc, binE_nil, binE_msn, slB_eq, slB_ne, eqV_app, eqR_eq, eqR_ne, rho_tmp, mkSl_app, raw12_9_1, eqT31, eqT65, eqT46, eqT50] | simp only [go_sem, reduceIte, Nat.reduceEqDiff, Nat.reduceAdd, Int.reduceEq, Nat.reduceLeDiff, Nat.reduceLT, pol_inl, polInl, polSite, Nat.reduceBEq, Nat.reduceMul, Nat.reduceSub, Int.reduceToNat, Int.reduceLE, Int.reduceLT, Int.reduceAdd, Int.reduceSub, Int.reduceMul, Int.reduceNeg, Int.reduceDiv, Int.reduceMod, Int.reduceTDiv, Int.reduceTMod, pol_inlT, Int.reducePow, pol_inlS, binE_agg, binE_slc, binE_nil, binE_msn, slB_eq, slB_ne, eqV_app, eqR_eq, eqR_ne, rho_tmp, mkSl_app, raw12_9_1, eqT31, eqT65, eqT46, eqT50] | skip))))

end Go.Proofs.Ytkamfflnfnjbeaa
