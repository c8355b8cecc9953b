/- The law AuditFirst. -/
import Derived.Test.YthcaepnclhgkmaaDoorAuM
import Derived.Test.YthcaepnclhgkmaaDoorAbsFill
import Derived.Test.YthcaepnclhgkmaaDoorWorks44
namespace Go.Proofs.YthcaepnclhgkmaaDoor
open Go Go.Abs
set_option linter.unusedSimpArgs false
set_option linter.unusedVariables false
set_option maxRecDepth 100000
set_option maxHeartbeats 4000000

theorem refT_some {rs : List Ru} {log : List Nt} {end_ : Int} {y : Int × Nat × Nt} (h : refF rs [] log = some y) : refT rs log end_ = fltT y := by unfold refT; rw [h]
theorem refT_none {rs : List Ru} {log : List Nt} {end_ : Int} (h : refF rs [] log = none) : ∃ a b c d, refT rs log end_ = .agg [J a, J b, J c, J d] ∧ (a = 0 ∨ a = 8) := by
  unfold refT
  rw [h]
  show ∃ a b c d, lostT (lostF rs log end_) = _ ∧ _
  cases lostF rs log end_ with
  | none => exact ⟨0, 0, 0, 0, rfl, .inl rfl⟩
  | some ix => exact ⟨8, (ix.1 : Nat), ix.2.s, ix.2.q, rfl, .inr rfl⟩

theorem frz_rowM {α : Type} {k mr : Nat} {enc : α → T} {l : List α} {h : Heap} {p : Nat → Bool} : frzObj h p (.row k ((l.map enc).map .t) mr) = some (.row k ((l.map enc).map .t) mr) := by
  simp only [frzObj, av_map, if_true]
theorem frz_rowG {α : Type} {k : Nat} {enc : α → T} {l : List α} {h : Heap} {p : Nat → Bool} : frzObj h p (rowG k enc l) = some (rowG k enc l) := by
  rw [rowG_eq]
  simp only [frzObj, av_map, if_true]

theorem lastT_rng {l : List Nt} (h : ∀ x ∈ l, x.t ≤ 51000 ∧ 0 ≤ x.t) : 0 ≤ lastT l ∧ lastT l ≤ 51000 := by
  unfold lastT
  cases hg : l.getLast? with
  | none => exact ⟨by decide, by decide⟩
  | some y => have := h y (List.mem_of_getLast? hg); exact ⟨this.2, this.1⟩

/-- Audit of a part of a log, up to a time behind it. -/
theorem aud_part {S : List Ru} {L : List Nt} (hS : S.length ≤ 12 ∧ chkR 0 S = true) (hL : chkN 0 L = true) (hl : L.length ≤ 200) (hLt : ∀ x ∈ L, x.t ≤ 51000 ∧ 0 ≤ x.t) (cl cl' : Bool) (e : Int) (he : lastT L ≤ e ∧ e ≤ 1099511627776) :
    ans Tryd.prog pol 12 [.sl cl 4 (S.map encR), .sl cl' 4 (L.map encN), J e] = some (.tup [refT S L e, J 0]) := by
  have hr := lastT_rng hLt
  have hok := chkN_ok (Int.le_refl 0) hL
  have := audit_ok cl cl' S L e hS ⟨by omega, hL⟩ (fun h => by rcases h with h | h | h <;> omega)
  rw [aud_eq (fun x hx => (hok x hx).1)] at this
  exact this


end Go.Proofs.YthcaepnclhgkmaaDoor
