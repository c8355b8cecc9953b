/- Small laws on how values are stood for: cells, aggregates, plain values. -/
import Derived.Test.YtkamfflnfnjbeaaAbsRep
set_option linter.unusedSimpArgs false
set_option linter.unusedVariables false
namespace Go.Abs
open Go

theorem allT_eq {cs : List AV} {ts : List T} (h : allT cs = some ts) : cs = ts.map .t := by
  induction cs generalizing ts with
  | nil => simp [allT] at h; subst h; rfl
  | cons c r ih =>
    cases c <;> simp only [allT] at h <;> try (exact absurd h (by simp))
    rename_i x
    cases hr : allT r with
    | none => simp [hr] at h
    | some xs => simp [hr] at h; subst h; simp [ih hr]

theorem allT_map (ts : List T) : allT (ts.map .t) = some ts := by
  induction ts with
  | nil => rfl
  | cons x r ih => simp [allT, ih]

theorem mkAgg_map (ts : List T) : mkAgg (ts.map .t) = .t (.agg ts) := by simp [mkAgg, allT_map]

theorem mkAgg_cells (cs : List AV) : (mkAgg cs).cells = cs := by
  unfold mkAgg
  cases h : allT cs with
  | none => rfl
  | some ts => simp [AV.cells, allT_eq h]

theorem mkAgg_isAgg (cs : List AV) : (mkAgg cs).isAgg = true := by
  unfold mkAgg
  cases h : allT cs <;> rfl

section
variable {D : Dom} {β : Bet} {w : World}

theorem Rep.toT {v : Value} {x : T} (h : Rep D β w v (.t x)) : RepT D w v x := by
  cases h with
  | t _ _ h => exact h

theorem Rep.mkAgg {cs : Array Value} {ts : List AV} (hl : cs.size = ts.length) (h : ∀ (i : Nat) v t, cs[i]? = some v → ts[i]? = some t → Rep D β w v t) : Rep D β w (.agg cs) (mkAgg ts) := by
  unfold Go.Abs.mkAgg
  cases ha : allT ts with
  | none => exact .agg cs ts hl h
  | some xs =>
    have e := allT_eq ha
    subst e
    refine .t _ _ (.agg cs xs (by simpa using hl) fun i v t hv ht => ?_)
    exact (h i v (.t t) hv (by simp [ht])).toT

theorem Rep.mkTup {cs : Array Value} {ts : List AV} (hl : cs.size = ts.length) (h : ∀ (i : Nat) v t, cs[i]? = some v → ts[i]? = some t → Rep D β w v t) : Rep D β w (.tuple cs) (mkTup ts) := by
  unfold Go.Abs.mkTup
  cases ha : allT ts with
  | none => exact .tup cs ts hl h
  | some xs =>
    have e := allT_eq ha
    subst e
    refine .t _ _ (.tup cs xs (by simpa using hl) fun i v t hv ht => ?_)
    exact (h i v (.t t) hv (by simp [ht])).toT

/-- The cells of a value are stood for one by one. -/
theorem Rep.cells {v : Value} {x : AV} (h : Rep D β w v x) (hx : x ≠ .dead) :
    v.cells.size = x.cells.length ∧ ∀ (j : Nat) c t, v.cells[j]? = some c → x.cells[j]? = some t → Rep D β w c t := by
  have single : ∀ {v : Value} {x : AV}, Rep D β w v x → v.cells = #[v] → x.cells = [x] →
      v.cells.size = x.cells.length ∧ ∀ (j : Nat) c t, v.cells[j]? = some c → x.cells[j]? = some t → Rep D β w c t := by
    intro v x h e1 e2
    rw [e1, e2]
    refine ⟨rfl, fun j c t hc ht => ?_⟩
    cases j with
    | zero => simp at hc ht; subst hc; subst ht; exact h
    | succ j => simp at hc
  cases h with
  | dead v => exact absurd rfl hx
  | agg cs ts hl h => exact ⟨hl, h⟩
  | tup cs ts hl h => exact single (.tup cs ts hl h) rfl rfl
  | fn f a b x y ha hb h1 h2 => exact single (.fn f a b x y ha hb h1 h2) rfl rfl
  | ref o e i off b k hb => exact single (.ref o e i off b k hb) rfl rfl
  | ms0 a o e i k clip => exact single (.ms0 a o e i k clip) rfl rfl
  | ms o e i len k clip b cap n hb hle hcap hclip hn hsz => exact single (.ms o e i len k clip b cap n hb hle hcap hclip hn hsz) rfl rfl
  | mp o b k hb => exact single (.mp o b k hb) rfl rfl
  | yl o b k hb => exact single (.yl o b k hb) rfl rfl
  | t _ y h =>
    cases h with
    | sc v hv =>
      refine single (.t _ _ (.sc v hv)) ?_ rfl
      cases v <;> first | rfl | (simp [noAgg] at hv)
    | agg cs ts hl h =>
      refine ⟨by simpa [Value.cells, AV.cells] using hl, fun j c t hc ht => ?_⟩
      simp only [AV.cells, List.getElem?_map, Option.map_eq_some_iff] at ht
      obtain ⟨u, hu, rfl⟩ := ht
      exact .t _ _ (h j c u hc hu)
    | tup cs ts hl h => exact single (.t _ _ (.tup cs ts hl h)) rfl rfl
    | fn f a b x y ha hb h1 h2 => exact single (.t _ _ (.fn f a b x y ha hb h1 h2)) rfl rfl
    | ip b off cs hD c hc h => exact single (.t _ _ (.ip b off cs hD c hc h)) rfl rfl
    | nosl a cap clip k hc => exact single (.t _ _ (.nosl a cap clip k hc)) rfl rfl
    | sl b off len cap clip k xs hD hlen hcap hclip hk c hc h => exact single (.t _ _ (.sl b off len cap clip k xs hD hlen hcap hclip hk c hc h)) rfl rfl

theorem cells_ne_dead {x : AV} (h : 0 < x.cells.length) : x ≠ .dead := by
  rintro rfl; simp [AV.cells] at h

theorem RepT.cells {v : Value} {x : T} (h : RepT D w v x) :
    v.cells.size = x.cells.length ∧ ∀ (j : Nat) c t, v.cells[j]? = some c → x.cells[j]? = some t → RepT D w c t := by
  have h' := Rep.cells (β := fun _ _ => none) (.t _ _ h) (by simp)
  have e : (AV.t x).cells = x.cells.map .t := by cases x <;> rfl
  rw [e] at h'
  refine ⟨by simpa using h'.1, fun j c t hc ht => ?_⟩
  exact (h'.2 j c (.t t) hc (by simp [ht])).toT

theorem tcells (x : T) : (AV.t x).cells = x.cells.map .t := by cases x <;> rfl

theorem isAgg_cells {v : Value} {x : AV} (h : Rep D β w v x) (hx : x.isAgg = true) : ∃ cs, v = .agg cs := by
  cases h <;> simp [AV.isAgg] at hx
  · rename_i h
    cases h <;> simp at hx
    exact ⟨_, rfl⟩
  · exact ⟨_, rfl⟩

theorem okVal_rep {v : Value} (h : okVal v = true) : RepT D w v (ofVal v) := by
  by_cases ha : ∃ cs, v = .agg cs
  · obtain ⟨cs, rfl⟩ := ha
    simp only [ofVal]
    refine .agg cs _ (by simp) fun i v t hv ht => ?_
    simp only [List.getElem?_map, Option.map_eq_some_iff] at ht
    obtain ⟨u, hu, rfl⟩ := ht
    have : u = v := by simp at hu; rw [hu] at hv; exact Option.some.inj hv
    subst this
    refine .sc _ ?_
    simp only [okVal, List.all_eq_true] at h
    exact h u (List.mem_of_getElem? hu)
  · have e : ofVal v = .sc v := by cases v <;> first | rfl | (exact absurd ⟨_, rfl⟩ ha)
    rw [e]
    refine .sc v ?_
    cases v <;> first | rfl | (exact absurd ⟨_, rfl⟩ ha)

theorem scVals_eq {ts : List T} {vs : List Value} (h : scVals ts = some vs) : ts = vs.map .sc := by
  induction ts generalizing vs with
  | nil => simp [scVals] at h; subst h; rfl
  | cons c r ih =>
    cases c <;> simp only [scVals] at h <;> try (exact absurd h (by simp))
    cases hr : scVals r with
    | none => simp [hr] at h
    | some xs => simp [hr] at h; subst h; simp [ih hr]

theorem RepT.sc_eq {v x : Value} (h : RepT D w v (.sc x)) : v = x ∧ noAgg x = true := by
  cases h with
  | sc v hv => exact ⟨rfl, hv⟩

theorem RepT.val? {v v' : Value} {x : T} (h : RepT D w v x) (hx : x.val? = some v') : v = v' := by
  cases h with
  | sc v hv => simp [T.val?] at hx; exact hx
  | agg cs ts hl h =>
    simp only [T.val?] at hx
    cases hs : scVals ts with
    | none => simp [hs] at hx
    | some vs =>
      simp [hs] at hx
      subst hx
      have e := scVals_eq hs
      subst e
      congr 1
      apply Array.ext'
      simp only
      apply List.ext_getElem?
      intro i
      by_cases hi : i < cs.size
      · have h1 : cs[i]? = some cs[i] := by simp [hi]
        have hi' : i < vs.length := by simpa [hl] using hi
        have h2 : (vs.map T.sc)[i]? = some (.sc vs[i]) := by simp [hi']
        have := (h i cs[i] (.sc vs[i]) h1 h2).sc_eq
        simp [hi, hi', this.1]
      · have hi' : ¬ i < vs.length := by simpa [hl] using hi
        simp [hi, hi']
  | _ => simp [T.val?] at hx

theorem Rep.val? {v v' : Value} {x : AV} (h : Rep D β w v x) (hx : x.val? = some v') : v = v' := by
  cases x <;> simp [AV.val?] at hx
  exact h.toT.val? hx

end
end Go.Abs
