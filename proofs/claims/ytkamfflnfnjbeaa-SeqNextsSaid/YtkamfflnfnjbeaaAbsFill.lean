/- Slices that are made and then filled. -/
import Derived.Test.YtkamfflnfnjbeaaAbsMore
set_option linter.unusedSimpArgs false
set_option linter.unusedVariables false
namespace Go.Abs
open Go
/-- A list of n places, the first i of which are filled. -/
def fillL {α : Type} (f : Nat → α) (z : α) (n i : Nat) : List α := (List.range i).map f ++ List.replicate (n - i) z
theorem fillL_zero {α : Type} (f : Nat → α) (z : α) (n : Nat) : fillL f z n 0 = List.replicate n z := by simp [fillL]
theorem fillL_all {α : Type} (f : Nat → α) (z : α) (n : Nat) : fillL f z n n = (List.range n).map f := by simp [fillL]
theorem fillL_len {α : Type} (f : Nat → α) (z : α) {n i : Nat} (h : i ≤ n) : (fillL f z n i).length = n := by simp [fillL]; omega
theorem fillL_set {α : Type} {f : Nat → α} {z x : α} {n i : Nat} (h : i < n) (hx : x = f i) : (fillL f z n i).set i x = fillL f z n (i + 1) := by
  subst hx
  obtain ⟨m, hm⟩ : ∃ m, n - i = m + 1 := ⟨n - i - 1, by omega⟩
  have h2 : n - (i + 1) = m := by omega
  rw [fillL, fillL, hm, h2, List.replicate_succ, List.set_append]
  simp [List.range_succ]
theorem row_rep {α : Type} {enc : α → T} {k n mr : Nat} (z : α) : AObj.row k (List.replicate n (.t (enc z))) mr = .row k (((List.replicate n z).map enc).map .t) mr := by simp
theorem map_set {α : Type} {enc : α → T} {l : List α} {i : Nat} {x : α} : ((l.map enc).map AV.t).set i (.t (enc x)) = ((l.set i x).map enc).map AV.t := by simp [List.map_set]
theorem map_get {α : Type} {enc : α → T} {l : List α} {i : Nat} {x : α} (h : l[i]? = some x) : ((l.map enc).map AV.t)[i]? = some (.t (enc x)) := by simp [h]
theorem frz_aggN {h : Heap} {p : Nat → Bool} {cs cs' : List AV} (ha : avoidAll p cs = false) (h1 : mapO (frzCell h p) cs = some cs') : frz h p (.agg cs) = some (mkAgg cs') := by
  simp only [frz, ha, h1, Bool.false_eq_true, if_false]
theorem frzCell_t {h : Heap} {p : Nat → Bool} {x : T} : frzCell h p (.t x) = some (.t x) := by simp [frzCell, avoid]
theorem frzCell_ms {h : Heap} {p : Nat → Bool} {o e i n k : Nat} {c : Bool} : frzCell h p (.ms o e i n k c) = frz h p (.ms o e i n k c) := (fun x => x) rfl
theorem mapO_snap {h : Heap} {p : Nat → Bool} {d : Nat} : ∀ (xs : List T), mapO (snap h p (d + 1)) (xs.map .t) = some xs := by
  intro xs
  induction xs with
  | nil => rfl
  | cons x xs ih => simp only [List.map_cons, mapO, ih, snap]
theorem frz_msr {α : Type} {enc : α → T} {h : Heap} {p : Nat → Bool} {o k mr n : Nat} {c : Bool} {l : List α} (hp : p o = true) (hr : h[o]? = some (.row k ((l.map enc).map .t) mr)) (hm : mr ≤ n) (hn : n = l.length) :
    frz h p (.ms o n 0 n k c) = some (.t (.sl c k (l.map enc))) := by
  subst hn
  have he : elemsOf h k (.ms o l.length 0 l.length k c) = some ((l.map enc).map .t) := by
    rw [el_full (by rw [hr]; exact ⟨rfl, by simp, hm⟩), hr]; rfl
  simp only [frz, frzCell, avoid, hp, Bool.not_true, Bool.false_eq_true, if_false, if_true, snap, he, mapO_snap]
theorem allT_agg {cs r : List AV} : allT (.agg cs :: r) = none := (fun x => x) rfl
theorem get_last {X : Heap} {x : AObj} : (X ++ [x])[X.length]? = some x := by simp
theorem set_last {X : Heap} {x y : AObj} : List.set (X ++ [x]) X.length y = X ++ [y] := by simp
end Go.Abs
