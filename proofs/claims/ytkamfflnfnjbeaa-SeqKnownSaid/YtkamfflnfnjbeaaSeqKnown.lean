/- SeqKnown answers true: the chapter's examples, the limits and the order of errors. No conditions. -/
import Derived.Test.YtkamfflnfnjbeaaPol
set_option linter.unusedSimpArgs false
set_option linter.unusedVariables false
namespace Go.Proofs.Ytkamfflnfnjbeaa
open Go Go.Abs Go.RowKit

theorem seqKnown_ans : ans Try.prog pol 7 [] = some (.sc (.bool true)) := ans_of_run (n := 100) 12 (by kernel_rfl)

set_option maxRecDepth 100000 in
theorem seqKnown_lifted (os : Os) (started : os.Started) (H : Type) (enc : TypeId × Value → H) :
    ReturnsInHanded {} Try.checked os 7 .any (Rows.seqKnownSpec.pre6 enc Try.prog Try.f7 Rows.seqKnownRow.domain false) (Rows.seqKnownSpec.post enc Try.prog Try.f7 false true false false) := by
  refine returnsInHanded_of_change (C := Try.checked) own started (by kernel_rfl) Try.func7
    (ChangeSpec.witness6 (enc := enc) (C := Try.checked) false ⟨#[], #[], []⟩ 8 (by kernel_rfl) (by kernel_rfl) (by kernel_rfl) (by kernel_rfl)) ?_
  intro W base args ds gs before hval hW _ _
  refine law_calls (P := Try.prog) (d := 20) sound (fun _ => rfl) laidOut (by kernel_rfl) (tb := 4) (by kernel_rfl) (by kernel_rfl) rfl (fun ds hds => ?_) (fun xs hx => ?_) hval hW
  · match ds, hds with
    | [], _ => rfl
  · have hp : Try.f7.params.toList = [] := by kernel_rfl
    rw [hp] at hx
    match xs, hx with
    | [], _ => exact seqKnown_ans

theorem seqKnown_holds : Rows.SeqKnownSaid :=
  OpenClaim.holds_of_wide 7 Try.f7 rfl rfl rfl rfl rfl rfl rfl ⟨rfl, rfl, rfl, rfl, rfl⟩ rfl rfl rfl rfl rfl (by kernel_rfl) Try.func7 (by kernel_rfl)
    (of_decide_eq_true (by kernel_rfl)) (by unfold Func.isWrapper; first | (rw [if_pos (by decide +kernel)]; kernel_rfl) | (rw [if_neg (by decide +kernel)]; exact ⟨rfl, rfl⟩))
    (fun os started H enc _ => seqKnown_lifted os started H enc)

end Go.Proofs.Ytkamfflnfnjbeaa
