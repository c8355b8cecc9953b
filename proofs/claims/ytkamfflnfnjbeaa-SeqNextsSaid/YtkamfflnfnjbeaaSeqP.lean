/- Lists of counters as maps: what the next number does to them. -/
import Derived.Test.YtkamfflnfnjbeaaSeqD
import Derived.Test.YtkamfflnfnjbeaaAbsMap
namespace Go.Proofs.Ytkamfflnfnjbeaa
open Go Go.Abs
set_option linter.unusedSimpArgs false
set_option linter.unusedVariables false

def ins (s v : Int) : List Cnt → List Cnt
  | [] => [(s, v)]
  | c :: l => if c.1 = s then (s, v) :: l else if s < c.1 then (s, v) :: c :: l else c :: ins s v l

theorem chk_cons {b : Int} {c : Cnt} {l : List Cnt} (h : chk b (c :: l) = true) : ((1 ≤ c.1 ∧ c.1 ≤ 4095) ∧ b < c.1 ∧ 0 ≤ c.2 ∧ c.2 < 65536) ∧ chk c.1 l = true := by
  simp only [chk, okB, Bool.and_eq_true, decide_eq_true_eq, Bool.not_eq_true', decide_eq_false_iff_not] at h
  exact ⟨⟨h.1.1, by omega, h.1.2.2⟩, h.2⟩
theorem chk_of {b : Int} {c : Cnt} {l : List Cnt} (h1 : (1 ≤ c.1 ∧ c.1 ≤ 4095) ∧ b < c.1 ∧ 0 ≤ c.2 ∧ c.2 < 65536) (h2 : chk c.1 l = true) : chk b (c :: l) = true := by
  simp only [chk, okB, Bool.and_eq_true, decide_eq_true_eq, Bool.not_eq_true', decide_eq_false_iff_not]
  exact ⟨⟨h1.1, by omega, h1.2.2⟩, h2⟩

theorem mget_low : ∀ {l : List Cnt} {b : Int}, chk b l = true → ∀ s, s ≤ b → mget l s = none := by
  intro l
  induction l with
  | nil => intro b _ s _; rfl
  | cons c l ih =>
    intro b h s hs
    have h := chk_cons h
    obtain ⟨c1, c2⟩ := c
    simp only at h
    rw [mget, if_neg (by omega)]
    exact ih h.2 s (by omega)

theorem mget_fnd : ∀ {l : List Cnt} {b : Int}, chk b l = true → ∀ s, mget l s = match l[fnd s l]? with | some c => if c.1 = s then some c.2 else none | none => none := by
  intro l
  induction l with
  | nil => intro b _ s; rfl
  | cons c l ih =>
    intro b h s
    have h := chk_cons h
    obtain ⟨c1, c2⟩ := c
    simp only at h
    by_cases q : s ≤ c1
    · have hf : fnd s ((c1, c2) :: l) = 0 := by simp [fnd, List.findIdx_cons, q]
      rw [hf, mget]
      simp only [List.getElem?_cons_zero]
      by_cases q2 : c1 = s
      · simp [q2]
      · rw [if_neg q2, if_neg q2]; exact mget_low h.2 s q
    · have hf : fnd s ((c1, c2) :: l) = fnd s l + 1 := by simp [fnd, List.findIdx_cons, q]
      rw [hf, mget, if_neg (by omega), ih h.2 s]
      simp only [List.getElem?_cons_succ]

theorem ins_fnd (s v : Int) : ∀ {l : List Cnt} {b : Int}, chk b l = true → ins s v l = match l[fnd s l]? with | some c => (if c.1 = s then l.take (fnd s l) ++ (s, v) :: l.drop (fnd s l + 1) else l.take (fnd s l) ++ (s, v) :: l.drop (fnd s l)) | none => l.take (fnd s l) ++ (s, v) :: l.drop (fnd s l) := by
  intro l
  induction l with
  | nil => intro b _; rfl
  | cons c l ih =>
    intro b h
    have h := chk_cons h
    obtain ⟨c1, c2⟩ := c
    simp only at h
    by_cases q : s ≤ c1
    · have hf : fnd s ((c1, c2) :: l) = 0 := by simp [fnd, List.findIdx_cons, q]
      rw [hf, ins]
      simp only [List.getElem?_cons_zero]
      by_cases q2 : c1 = s
      · simp [q2]
      · simp only [q2, if_false]
        rw [if_pos (show s < c1 by omega)]
        rfl
    · have hf : fnd s ((c1, c2) :: l) = fnd s l + 1 := by simp [fnd, List.findIdx_cons, q]
      rw [hf, ins, if_neg (by simp only; omega), if_neg (by simp only; omega), ih h.2]
      simp only [List.getElem?_cons_succ, List.take_succ_cons, List.drop_succ_cons]
      cases l[fnd s l]? with
      | none => rfl
      | some x => simp only; split <;> rfl

theorem nxt_ins {l : List Cnt} {s : Int} (hv : l.length ≤ 12 ∧ chk 0 l = true) (hs : 1 ≤ s ∧ s ≤ 4095) : nxt l s = match mget l s with
    | some n => .tup [lst (ins s ((n + 1) % 65536) l), .sc (.int .i64 n), .sc (.int .i64 0)]
    | none => if l.length = 12 then err3 7 else .tup [lst (ins s 1 l), .sc (.int .i64 0), .sc (.int .i64 0)] := by
  have h1 := mget_fnd hv.2 s
  rw [nxt, if_neg (by simp [hv]), if_neg (by simp [hs]), h1]
  cases hc : l[fnd s l]? with
  | none =>
    simp only
    have h2 := ins_fnd s 1 hv.2
    rw [hc] at h2
    simp only [put3, h2]
    rfl
  | some c =>
    simp only
    by_cases q : c.1 = s
    · rw [if_pos q, if_pos q]
      have h2 := ins_fnd s ((c.2 + 1) % 65536) hv.2
      rw [hc] at h2
      simp only [q, if_true] at h2
      simp only [put3, h2]
    · rw [if_neg q, if_neg q]
      have h2 := ins_fnd s 1 hv.2
      rw [hc] at h2
      simp only [q, if_false] at h2
      simp only [put3, h2]
      rfl

theorem chk_ins {s v : Int} (hs : 1 ≤ s ∧ s ≤ 4095) (hv : 0 ≤ v ∧ v < 65536) : ∀ {l : List Cnt} {b : Int}, chk b l = true → b < s → chk b (ins s v l) = true := by
  intro l
  induction l with
  | nil => intro b _ h; exact chk_of ⟨hs, h, hv⟩ rfl
  | cons c l ih =>
    intro b h hb
    have h' := chk_cons h
    rw [ins]
    by_cases q : c.1 = s
    · rw [if_pos q]; exact chk_of ⟨hs, hb, hv⟩ (by rw [← q]; exact h'.2)
    · rw [if_neg q]
      by_cases q2 : s < c.1
      · rw [if_pos q2]; exact chk_of ⟨hs, hb, hv⟩ (chk_of ⟨h'.1.1, q2, h'.1.2.2⟩ h'.2)
      · rw [if_neg q2]; exact chk_of h'.1 (ih h'.2 (by omega))

theorem mget_ins (s v : Int) : ∀ {l : List Cnt} {b : Int}, chk b l = true → ∀ k, mget (ins s v l) k = if s = k then some v else mget l k := by
  intro l
  induction l with
  | nil => intro b _ k; rfl
  | cons c l ih =>
    intro b h k
    have h := chk_cons h
    obtain ⟨c1, c2⟩ := c
    simp only at h
    rw [ins]
    by_cases q : c1 = s
    · simp only [q, if_true]
      rw [mget, mget]
      by_cases q2 : s = k
      · simp [q2]
      · simp only [if_neg q2]
    · simp only [if_neg q]
      by_cases q2 : s < c1
      · rw [if_pos q2, mget]
      · rw [if_neg q2, mget, mget, ih h.2 k]
        by_cases q3 : s = k
        · subst q3; simp [q]
        · simp [q3]

theorem len_ins (s v : Int) : ∀ {l : List Cnt} {b : Int}, chk b l = true → (ins s v l).length = if (mget l s).isSome = true then l.length else l.length + 1 := by
  intro l
  induction l with
  | nil => intro b _; rfl
  | cons c l ih =>
    intro b h
    have h := chk_cons h
    obtain ⟨c1, c2⟩ := c
    simp only at h
    rw [ins, mget]
    by_cases q : c1 = s
    · simp [q]
    · simp only [if_neg q]
      by_cases q2 : s < c1
      · rw [if_pos q2, mget_low h.2 s (by omega)]; simp
      · rw [if_neg q2, List.length_cons, ih h.2]
        split <;> simp

theorem mget_mem : ∀ {l : List Cnt} {b : Int}, chk b l = true → ∀ c ∈ l, mget l c.1 = some c.2 := by
  intro l
  induction l with
  | nil => intro b _ c hc; cases hc
  | cons x l ih =>
    intro b h c hc
    have h' := chk_cons h
    obtain ⟨x1, x2⟩ := x
    rw [mget]
    cases hc with
    | head => simp
    | tail _ hc =>
      have h3 := ih h'.2 c hc
      by_cases q : x1 = c.1
      · have := mget_low h'.2 c.1 (by simp only; omega)
        rw [this] at h3; cases h3
      · rw [if_neg q]; exact h3

theorem mget_in : ∀ {l : List Cnt} {k n : Int}, mget l k = some n → (k, n) ∈ l := by
  intro l
  induction l with
  | nil => intro k n h; simp [mget] at h
  | cons x l ih =>
    intro k n h
    obtain ⟨x1, x2⟩ := x
    rw [mget] at h
    split at h
    · rename_i q; simp only [Option.some.injEq] at h; subst h q; simp
    · exact List.mem_cons_of_mem _ (ih h)

theorem mget_before : ∀ {p : List Cnt} {b : Int} {c : Cnt} {r : List Cnt}, chk b (p ++ c :: r) = true → b < c.1 ∧ mget p c.1 = none := by
  intro p
  induction p with
  | nil => intro b c r h; exact ⟨(chk_cons h).1.2.1, rfl⟩
  | cons x p ih =>
    intro b c r h
    have h' := chk_cons h
    have h2 := ih h'.2
    obtain ⟨x1, x2⟩ := x
    simp only at h' h2
    refine ⟨by omega, ?_⟩
    rw [mget, if_neg (by omega)]
    exact h2.2

theorem mput_new {κ α : Type} [DecidableEq κ] : ∀ {m : List (κ × α)} {k : κ} {v : α}, mget m k = none → mput m k v = m ++ [(k, v)] := by
  intro m
  induction m with
  | nil => intro k v _; rfl
  | cons x m ih =>
    intro k v h
    obtain ⟨x1, x2⟩ := x
    rw [mget] at h
    split at h
    · cases h
    · rename_i q; rw [mput, if_neg q, ih h]; rfl

/-- The counters and the numbers that are awaited. -/
def runW (l : List Cnt) (m : List Cnt) : Prop := (l.length ≤ 12 ∧ chk 0 l = true) ∧ m.length = l.length ∧ ∀ k, mget m k = mget l k

end Go.Proofs.Ytkamfflnfnjbeaa
