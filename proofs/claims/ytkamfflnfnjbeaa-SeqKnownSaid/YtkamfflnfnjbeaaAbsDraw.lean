/- Regions that draw their order: whatever order is drawn, the machine comes to where the order of the text leads. -/
import Derived.Test.YtkamfflnfnjbeaaAbsDrawD
set_option linter.unusedSimpArgs false
set_option linter.unusedVariables false
namespace Go.Abs
open Go

variable {P : Program} {pol : Pol} {K : Oracle} {I : Inl} {f : FuncId} {ops : Array Oper} {crit : List (Nat × Nat)} {E : Nat → Env} {H : Nat → Heap} {τ : Nat → Option (List Nat)} {S : Nat → Prop}

/-- Operation i touches object q. -/
def Tch (τ : Nat → Option (List Nat)) (i q : Nat) : Prop := τ i = none ∨ ∃ l, τ i = some l ∧ q ∈ l

theorem Chg.tch {i q : Nat} (h : Chg ops τ i q) : Tch τ i q := let ⟨_, _, _, h3⟩ := h; h3

theorem apart_no {s t : Option (List Nat)} {q : Nat} (ha : apartB s t = true) (hs : s = none ∨ ∃ l, s = some l ∧ q ∈ l) (ht : t = none ∨ ∃ l, t = some l ∧ q ∈ l) : False := by
  rcases hs with rfl | ⟨a, rfl, ha'⟩
  · rcases ht with rfl | ⟨b, rfl, hb'⟩
    · simp [apartB] at ha
    · cases b with
      | nil => simp at hb'
      | cons x b => simp [apartB] at ha
  · cases a with
    | nil => simp at ha'
    | cons x a =>
      rcases ht with rfl | ⟨b, rfl, hb'⟩
      · simp [apartB] at ha
      · cases b with
        | nil => simp at hb'
        | cons y b =>
          simp only [apartB, List.all_eq_true] at ha
          have := ha q ha'
          simp [hb'] at this

theorem clash_symm (x y : Kind) : x.clash y = y.clash x := by cases x <;> cases y <;> rfl

theorem exists_last (p : Nat → Prop) (n : Nat) : ∃ k, k ≤ n ∧ (∀ i, i < n → p i → i < k) ∧ (k = 0 ∨ ∃ i, k = i + 1 ∧ p i) := by
  induction n with
  | zero => exact ⟨0, Nat.le_refl _, fun i hi => by omega, .inl rfl⟩
  | succ n ih =>
    obtain ⟨k, h1, h2, h3⟩ := ih
    by_cases hp : p n
    · exact ⟨n + 1, Nat.le_refl _, fun i hi _ => hi, .inr ⟨n, rfl, hp⟩⟩
    · refine ⟨k, by omega, fun i hi hpi => ?_, h3⟩
      by_cases h : i = n
      · subst h; exact absurd hpi hp
      · exact h2 i (by omega) hpi

/-- The last one that has run and does p ends at k. -/
def Last (S p : Nat → Prop) (k : Nat) : Prop := (∀ i, S i → p i → i < k) ∧ (k = 0 ∨ ∃ i, k = i + 1 ∧ S i ∧ p i)

theorem Last.exists (hS : ∀ i, S i → i < ops.size) (p : Nat → Prop) : ∃ k, Last S p k := by
  obtain ⟨k, _, h2, h3⟩ := exists_last (fun i => S i ∧ p i) ops.size
  exact ⟨k, fun i hs hp => h2 i (hS i hs) ⟨hs, hp⟩, h3⟩

/-- What has been made so far. -/
def Real (H : Nat → Heap) (S : Nat → Prop) (q : Nat) : Prop := q < (H 0).length ∨ ∃ i, S i ∧ (H i).length ≤ q ∧ q < (H (i + 1)).length

theorem exists_new {j q : Nat} (hq : q < (H j).length) : q < (H 0).length ∨ ∃ i, i < j ∧ (H i).length ≤ q ∧ q < (H (i + 1)).length := by
  induction j with
  | zero => exact .inl hq
  | succ j ih =>
    by_cases h : q < (H j).length
    · rcases ih h with h | ⟨i, h1, h2⟩
      · exact .inl h
      · exact .inr ⟨i, by omega, h2⟩
    · exact .inr ⟨j, by omega, by omega, hq⟩

section
variable (tr : Trace P pol K I f ops E H τ)
include tr

theorem Trace.quietN {j : Nat} {o : Oper} (ho : ops[j]? = some o) (hk : kindOf o.op = .n) {q : Nat} : ¬ Tch τ j q := by
  obtain ⟨b, v, _, _, hl, hcase⟩ := tr.step j o ho
  have no : τ j = some [] → ¬ Tch τ j q := by
    rintro h (h' | ⟨l, h', hq⟩)
    · rw [h] at h'; cases h'
    · rw [h] at h'; cases h'; cases hq
  rcases hcase with ⟨_, hkk, ht⟩ | ⟨_, _, hH, ht⟩
  · cases hkk with
    | pure g args ts r ha ht0 hts hr hv hh => obtain ⟨c, x, hop, hcal, _⟩ := aOp_call ha; simp [kindOf, hop, hcal] at hk
    | full g args ha ht0 hc => obtain ⟨c, x, hop, hcal, _⟩ := aOp_call ha; simp [kindOf, hop, hcal] at hk
    | plain r ha hv =>
      obtain ⟨l, q1, q2, q3, q4, _⟩ := aOp_frame ha hv
      rw [q1, q3 (by rw [hk]; rfl), q4 hk] at ht
      exact no (by simpa [touchN] using ht)
  · exact no ht

theorem Trace.newsA {j : Nat} {o : Oper} (ho : ops[j]? = some o) (hk : kindOf o.op = .a) {q : Nat} (hq : Tch τ j q) : (H j).length ≤ q ∧ q < (H (j + 1)).length := by
  obtain ⟨b, v, _, _, hl, hcase⟩ := tr.step j o ho
  rcases hcase with ⟨_, hkk, ht⟩ | ⟨_, _, hH, ht⟩
  · cases hkk with
    | pure g args ts r ha ht0 hts hr hv hh => obtain ⟨c, x, hop, hcal, _⟩ := aOp_call ha; simp [kindOf, hop, hcal] at hk
    | full g args ha ht0 hc => obtain ⟨c, x, hop, hcal, _⟩ := aOp_call ha; simp [kindOf, hop, hcal] at hk
    | plain r ha hv =>
      obtain ⟨l, q1, q2, q3, q4, q5⟩ := aOp_frame ha hv
      rw [q1, q5 hk] at ht
      rcases hq with h | ⟨l', h, hm⟩
      · rw [ht] at h; cases h
      · rw [ht] at h
        simp [touchN] at h
        subst h
        simp [List.mem_range'_1] at hm
        omega
  · rcases hq with h | ⟨l', h, hm⟩
    · rw [ht] at h; cases h
    · rw [ht] at h; cases h; cases hm

end

/-- The ground on which a drawn order is walked. -/
structure Ground (P : Program) (pol : Pol) (K : Oracle) (I : Inl) (f : FuncId) (ops : Array Oper) (crit : List (Nat × Nat)) (E : Nat → Env) (H : Nat → Heap) (τ : Nat → Option (List Nat)) : Prop where
  tr : Trace P pol K I f ops E H τ
  ok : RegOk crit ops
  apart : ∀ i j, (i, j) ∈ crit → apartB (τ i) (τ j) = true

/-- Where the order stands: S has run, whole with what it waits for; j is next. -/
structure At (ops : Array Oper) (S : Nat → Prop) (j : Nat) (o : Oper) : Prop where
  lt : ∀ i, S i → i < ops.size
  ho : ops[j]? = some o
  no : ¬ S j
  dc : ∀ i k, S k → Bef ops i k → S i
  dep : ∀ i, Bef ops i j → S i

section
variable {j : Nat} {o : Oper} (G : Ground P pol K I f ops crit E H τ) (A : At ops S j o)
include G A

/-- Who changes what j touches has run if and only if it stands ahead of j. -/
theorem At.order {i q : Nat} (hc : Chg ops τ i q) (ht : Tch τ j q) (hij : i ≠ j) : S i ↔ i < j := by
  have hct := hc.tch
  obtain ⟨p, hp, hnq, _⟩ := hc
  have hclash : (kindOf p.op).clash (kindOf o.op) = true := by
    cases hkj : kindOf o.op with
    | n => exact absurd ht (G.tr.quietN A.ho hkj)
    | r => cases hki : kindOf p.op <;> simp [hki, Kind.quiet] at hnq <;> rfl
    | w => cases hki : kindOf p.op <;> simp [hki, Kind.quiet] at hnq <;> rfl
    | a =>
      cases hki : kindOf p.op with
      | n => simp [hki, Kind.quiet] at hnq
      | r => simp [hki, Kind.quiet] at hnq
      | w => rfl
      | a =>
        exfalso
        have h1 := G.tr.newsA hp hki hct
        have h2 := G.tr.newsA A.ho hkj ht
        have hi := lt_of_ops hp
        have hj := lt_of_ops A.ho
        by_cases h : i < j
        · have := G.tr.len (i + 1) j (by omega) (by omega); omega
        · have := G.tr.len (j + 1) i (by omega) (by omega); omega
  by_cases h : i < j
  · refine ⟨fun _ => h, fun _ => ?_⟩
    rcases G.ok.cover i j p o hp A.ho h hclash with hb | hm
    · exact A.dep i hb
    · exact (apart_no (G.apart i j hm) hct ht).elim
  · refine ⟨fun hs => ?_, fun h' => absurd h' h⟩
    rcases G.ok.cover j i o p A.ho hp (by omega) (by rw [clash_symm]; exact hclash) with hb | hm
    · exact absurd (A.dc j i hs hb) A.no
    · exact (apart_no (G.apart j i hm) ht hct).elim

theorem At.heap {q k : Nat} (ht : Tch τ j q) (hl : Last S (fun i => Chg ops τ i q) k) : (H j)[q]? = (H k)[q]? := by
  have hj := lt_of_ops A.ho
  have hk : k ≤ j := by
    rcases hl.2 with h | ⟨i, rfl, hs, hc⟩
    · omega
    · exact (A.order G hc ht (fun e => A.no (e ▸ hs))).1 hs
  exact G.tr.heapSame hk (by omega) fun i h1 h2 hc => by
    have := hl.1 i ((A.order G hc ht (by omega)).2 h2) hc
    omega

theorem At.real {q : Nat} (ht : Tch τ j q) (hq : q < (H j).length) : Real H S q := by
  rcases exists_new hq with h | ⟨i, h1, h2, h3⟩
  · exact .inl h
  · have hi : i < ops.size := by have := lt_of_ops A.ho; omega
    have hc := G.tr.news (o := ops[i]) (by simp [hi]) h2 h3
    exact .inr ⟨i, (A.order G hc ht (by omega)).2 h1, h2, h3⟩

theorem At.writer {i t : Nat} (hd : dstAt ops i = some t) (hn : t ∈ namesOf ops o) (hij : i ≠ j) : S i ↔ i < j := by
  rcases G.ok.temps i j o t A.ho hij hd hn with ⟨h, hb⟩ | ⟨h, hb⟩
  · exact ⟨fun _ => h, fun _ => A.dep i hb⟩
  · exact ⟨fun hs => absurd (A.dc j i hs hb) A.no, fun h' => by omega⟩

theorem At.env {t k : Nat} (hn : t ∈ namesOf ops o) (hl : Last S (fun i => dstAt ops i = some t) k) : (E j)[t]? = (E k)[t]? := by
  have hj := lt_of_ops A.ho
  have hk : k ≤ j := by
    rcases hl.2 with h | ⟨i, rfl, hs, hc⟩
    · omega
    · exact (A.writer G hc hn (fun e => A.no (e ▸ hs))).1 hs
  exact G.tr.envSame hk (by omega) fun i h1 h2 hc => by
    have := hl.1 i ((A.writer G hc hn (by omega)).2 h2) hc
    omega

/-- New objects of j are not there yet. -/
theorem At.fresh {q : Nat} (h1 : (H j).length ≤ q) (h2 : q < (H (j + 1)).length) : ¬ Real H S q := by
  have hj := lt_of_ops A.ho
  rintro (h | ⟨i, hs, h3, h4⟩)
  · have := G.tr.len 0 j (by omega) (by omega); omega
  · have hi := A.lt i hs
    have hij : i ≠ j := fun e => A.no (e ▸ hs)
    by_cases h : i < j
    · have := G.tr.len (i + 1) j (by omega) (by omega); omega
    · have := G.tr.len (j + 1) i (by omega) (by omega); omega

end

end Go.Abs
