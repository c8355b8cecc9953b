/- ElectKnown answers true: the examples, the limits and the order of errors. No conditions. -/
import Derived.Test.YtboknhdkadcaeaaElT
set_option linter.unusedSimpArgs false
set_option linter.unusedVariables false
namespace Go.Proofs.Ytboknhdkadcaeaa
open Go Go.Abs Go.RowKit

theorem electKnown_all (xs : List T) (h : FitAll Try.prog 20 Try.f9.params.toList xs) : ans Try.prog pol 9 xs = some (.sc (.bool true)) := by
  have hp : Try.f9.params.toList = [] := by kernel_rfl
  rw [hp] at h
  obtain rfl := fitAll_nil h
  exact electKnown_ans

set_option maxRecDepth 100000 in
theorem electKnown_lifted (os : Os) (started : os.Started) (H : Type) (enc : TypeId × Value → H) :
    ReturnsInHanded {} Try.checked os 9 .any (Rows.electKnownSpec.pre6 enc Try.prog Try.f9 Rows.electKnownRow.domain false) (Rows.electKnownSpec.post enc Try.prog Try.f9 false true false false) := by
  refine returnsInHanded_of_change (C := Try.checked) own started (by kernel_rfl) Try.func9
    (ChangeSpec.witness6 (enc := enc) (C := Try.checked) false ⟨#[], #[], []⟩ 8 (by kernel_rfl) (by kernel_rfl) (by kernel_rfl) (by kernel_rfl)) ?_
  intro W base args ds gs before hval hW _ _
  refine law_calls (P := Try.prog) (d := 20) sound (fun _ => rfl) laidOut (by kernel_rfl) (tb := 4) (by kernel_rfl) (by kernel_rfl) rfl (fun ds hds => ?_) electKnown_all hval hW
  have hn : Try.f9.params.size = 0 := by kernel_rfl
  rw [hn] at hds
  match ds, hds with
  | [], _ => rfl

theorem electKnown_holds : Rows.ElectKnownSaid :=
  OpenClaim.holds_of_wide 9 Try.f9 rfl rfl rfl rfl rfl rfl rfl ⟨rfl, rfl, rfl, rfl, rfl⟩ rfl rfl rfl rfl rfl (by kernel_rfl) Try.func9 (by kernel_rfl)
    (of_decide_eq_true (by kernel_rfl)) (by unfold Func.isWrapper; first | (rw [if_pos (by decide +kernel)]; kernel_rfl) | (rw [if_neg (by decide +kernel)]; exact ⟨rfl, rfl⟩))
    (fun os started H enc _ => electKnown_lifted os started H enc)

end Go.Proofs.Ytboknhdkadcaeaa
