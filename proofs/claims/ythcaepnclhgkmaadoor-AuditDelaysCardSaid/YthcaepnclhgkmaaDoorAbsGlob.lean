/- Package-level variables of plain data, as the statement says that they read: what the evaluator takes them for. -/
import Derived.Test.YthcaepnclhgkmaaDoorAbsP3
import Derived.OpenShut
import Derived.MakeChecks
import Derived.LaidMore
import Derived.LaidHandle
set_option linter.unusedVariables false
set_option linter.unusedSimpArgs false
namespace Go.Abs
open Go Go.RowKit

variable {P : Program} {pol : Pol}

def litCell : DataW Unit → Option T
  | .lit (.int k n) => some (.sc (.int k n))
  | .lit (.string bs) => some (.sc (.string ⟨⟨bs⟩⟩))
  | .lit (.bool b) => some (.sc (.bool b))
  | _ => none

theorem lit_cell {w : World} {sp : Nat → Bool} {held : Bool} {fuel : Nat} {e : TypeId} {v : Value} {x : DataW Unit × List MemPlace} {t : T} (h : DataW.trod (fun _ => ()) P w 0 sp held fuel e [v] = some x) (ht : litCell x.1 = some t) : t = .sc v ∧ noAgg v = true ∧ okCell v = true := by
  cases fuel with
  | zero => simp [DataW.trod] at h
  | succ m =>
    obtain ⟨d, p⟩ := x
    cases d with
    | lit l =>
      cases hu : P.underlying e with
      | none => simp [DataW.trod, hu] at h
      | some u =>
        cases u with
        | bool =>
          cases v <;> simp [DataW.trod, hu] at h
          obtain ⟨rfl, _⟩ := h
          simp [litCell] at ht
          subst ht
          exact ⟨rfl, rfl, rfl⟩
        | int k =>
          cases v <;> simp [DataW.trod, hu] at h
          obtain ⟨⟨rfl, _⟩, rfl, _⟩ := h
          simp [litCell] at ht
          subst ht
          exact ⟨rfl, rfl, rfl⟩
        | string =>
          cases v <;> simp [DataW.trod, hu] at h
          obtain ⟨_, rfl, _⟩ := h
          simp [litCell] at ht
          subst ht
          exact ⟨rfl, rfl, rfl⟩
        | float k =>
          cases v <;> simp [DataW.trod, hu] at h
          obtain ⟨_, rfl, _⟩ := h
          simp [litCell] at ht
        | _ => exfalso; cases v <;> simp [DataW.trod, hu] at h <;> (repeat' (split at h)) <;> simp_all [Option.map_eq_some_iff, Option.bind_eq_some_iff]
    | _ => simp [litCell] at ht

theorem laidVars_mem {w : World} : ∀ {L : List (String × DataW Unit)} {ps : List MemPlace}, DataW.LaidVars P w L ps → ∀ x ∈ L, ∃ g t cs fuel p, P.globalNamed x.1 = some g ∧ (P.globals[g]?).map (·.type) = some t ∧ w.var? P x.1 = some cs ∧ DataW.trod (fun _ => ()) P w 0 (fun _ => true) false fuel t cs.toList = some (x.2, p) := by
  intro L
  induction L with
  | nil => intro ps _ x hx; cases hx
  | cons y L ih =>
    obtain ⟨n, d⟩ := y
    intro ps h x hx
    obtain ⟨g, t, cs, fuel, p, q, h1, h2, h3, h4, h5, _⟩ := h
    cases hx with
    | head => exact ⟨g, t, cs, fuel, p, h1, h2, h3, h4⟩
    | tail _ hx => exact ih h5 x hx

/-- An array of plain cells, as a datum says. -/
structure LaidArr (P : Program) (L : List (String × DataW Unit)) (g : Nat) (x : T) : Prop where
  ex : ∃ nm t n e ds ts, (nm, DataW.agg ds) ∈ L ∧ P.globalNamed nm = some g ∧ (P.globals[g]?).map (·.type) = some t ∧ P.underlying t = some (.array n e) ∧ P.cellsOf e = 1 ∧ P.cellsOf t = n ∧ mapO litCell ds = some ts ∧ x = .ip ts

theorem mapO_getG {α β : Type} {f : α → Option β} : ∀ {l : List α} {r : List β}, mapO f l = some r → l.length = r.length ∧ ∀ (i : Nat) b, r[i]? = some b → ∃ a, l[i]? = some a ∧ f a = some b := by
  intro l
  induction l with
  | nil => intro r h; simp [mapO] at h; subst h; exact ⟨rfl, fun i b hb => by simp at hb⟩
  | cons a l ih =>
    intro r h
    simp only [mapO] at h
    cases hf : f a with
    | none => rw [hf] at h; simp at h
    | some b =>
      rw [hf] at h
      cases hm : mapO f l with
      | none => rw [hm] at h; simp at h
      | some bs =>
        rw [hm] at h
        simp only [Option.some.injEq] at h
        subst h
        obtain ⟨h1, h2⟩ := ih hm
        refine ⟨by simp [h1], fun i c hc => ?_⟩
        cases i with
        | zero => simp at hc; subst hc; exact ⟨a, rfl, hf⟩
        | succ i => obtain ⟨a', p1, p2⟩ := h2 i c (by simpa using hc); exact ⟨a', by simpa using p1, p2⟩

theorem glob_of_laid {L : List (String × DataW Unit)} {w : World} (hpl : (L.all fun x => x.2.handleName?.isNone) = true) (h : laidMetH P L w) (hg : ∀ g x, pol.glob g = some x → LaidArr P L g x) : GlobOk pol (lowD w) w := by
  suffices main : ∀ g x, pol.glob g = some x → RepT (lowD w) w (.pointer (some ⟨g, 0, none⟩)) x ∧ ∀ ts, x = .ip ts → lowD w g ∧ ∃ cs ty fr, w.heap[g]? = some (.cells cs ty fr) ∧ cs.size = ts.length from ⟨fun g x h => (main g x h).1, fun g ts h => (main g _ h).2 ts rfl⟩
  rw [MakeChecks.laidMetH_plain _ _ _ hpl] at h
  obtain ⟨ps, hV, _, _⟩ := h
  intro g x hx
  obtain ⟨nm, t, n, e, ds, ts, hmem, h1, h2, hu, he, ht, hm, rfl⟩ := (hg g x hx).ex
  obtain ⟨g', t', cs, fuel, p, h1', h2', h3, h4⟩ := laidVars_mem hV _ hmem
  obtain rfl := Option.some.inj (h1.symm.trans h1')
  obtain rfl := Option.some.inj (h2.symm.trans h2')
  obtain ⟨xs, m, rfl, hxs, hlen, hxn, hel⟩ := DataW.trod_array hu h4
  simp only [Prod.mk.injEq, DataW.agg.injEq] at hxs
  obtain ⟨hds, _⟩ := hxs
  obtain ⟨hl1, hl2⟩ := mapO_getG hm
  have hcl : cs.toList.length = n := by rw [hlen, ht]
  have hdl : ds.length = n := by rw [hds, List.length_map, hxn]
  have key : ∀ (j : Nat) u, ts[j]? = some u → ∃ v, cs[j]? = some v ∧ u = .sc v ∧ noAgg v = true ∧ okCell v = true := by
    intro j u hj
    obtain ⟨d, hd, hlit⟩ := hl2 j u hj
    have hjn : j < n := by rw [← hdl]; exact (List.getElem?_eq_some_iff.1 hd).1
    have h5 := hel j hjn
    have hjc : j < cs.toList.length := by omega
    have hw1 : (cs.toList.drop (j * P.cellsOf e)).take (P.cellsOf e) = [cs.toList[j]] := by
      rw [he, Nat.mul_one, List.drop_eq_getElem_cons hjc]; rfl
    rw [hw1] at h5
    obtain ⟨y, hy⟩ : ∃ y, xs[j]? = some y := ⟨xs[j]'(by omega), by simp⟩
    rw [hy] at h5
    have hdy : d = y.1 := by
      rw [hds, List.getElem?_map, hy] at hd
      simpa using hd.symm
    subst hdy
    obtain ⟨q1, q2, q3⟩ := lit_cell h5 hlit
    refine ⟨cs.toList[j], ?_, q1, q2, q3⟩
    have : cs.toList[j]? = some cs.toList[j] := by simp
    rw [← this]; simp
  have hcell : ∀ (j : Nat) v, cs[j]? = some v → w.cell? ⟨g, j, none⟩ = some v := fun j v hv => by rw [World.var?_cell h1 h3 j]; exact hv
  have hn0 : n = 0 ∨ g < w.heap.size := by
    by_cases h0 : n = 0
    · exact .inl h0
    · right
      have hj : 0 < cs.size := by have : cs.toList.length = cs.size := by simp
                                  omega
      exact (cell_lt (hcell 0 cs[0] (by simp [hj]))).1
  have hglt : g < w.heap.size := by
    have hv := h3
    simp only [World.var?, h1, Option.bind_some] at hv
    rcases Nat.lt_or_ge g w.heap.size with h | h
    · exact h
    · have : w.heap[g]? = none := by simp [h]
      rw [this] at hv
      simp at hv
  refine ⟨?_, fun ts' ht' => ?_⟩
  rotate_left
  · obtain rfl : ts = ts' := by injection ht'
    refine ⟨hglt, ?_⟩
    have hv := h3
    simp only [World.var?, h1, Option.bind_some] at hv
    split at hv
    · rename_i c ty fr hb
      simp only [Option.some.injEq] at hv
      subst hv
      refine ⟨c, ty, fr, hb, ?_⟩
      have : c.toList.length = c.size := by simp
      omega
    · exact (by cases hv)
  refine .ip g 0 ts hglt (fun j => (cs[j]?).getD undef) (fun j hj => ?_) (fun j u hu => ?_)
  · obtain ⟨u, hu⟩ : ∃ u, ts[j]? = some u := ⟨ts[j], by simp [hj]⟩
    obtain ⟨v, q1, q2, q3, q4⟩ := key j u hu
    rw [Nat.zero_add, q1]
    exact ⟨hcell j v q1, q4⟩
  · obtain ⟨v, q1, q2, q3, q4⟩ := key j u hu
    subst q2
    rw [q1]
    exact .sc v q3

end Go.Abs
