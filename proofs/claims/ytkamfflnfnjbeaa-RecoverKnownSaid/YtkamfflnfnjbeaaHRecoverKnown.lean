/- RecoverKnown answers true: the examples, the limits and the order of errors. No conditions. -/
import Derived.Test.YtkamfflnfnjbeaaKRecoverKnown
set_option linter.unusedSimpArgs false
set_option linter.unusedVariables false
namespace Go.Proofs.Ytkamfflnfnjbeaa
open Go Go.Abs Go.RowKit

theorem recoverKnown_all (xs : List T) (h : FitAll Try.prog 20 Try.f14.params.toList xs) : ans Try.prog pol 14 xs = some (.sc (.bool true)) := by
  have hp : Try.f14.params.toList = [] := by kernel_rfl
  rw [hp] at h
  obtain rfl := fitAll_nil h
  exact recoverKnown_ans

set_option maxRecDepth 100000 in
theorem recoverKnown_lifted (os : Os) (started : os.Started) (H : Type) (enc : TypeId × Value → H) :
    ReturnsInHanded {} Try.checked os 14 .any (Rows.recoverKnownSpec.pre6 enc Try.prog Try.f14 Rows.recoverKnownRow.domain false) (Rows.recoverKnownSpec.post enc Try.prog Try.f14 false true false false) := by
  refine returnsInHanded_of_change (C := Try.checked) own started (by kernel_rfl) Try.func14
    (ChangeSpec.witness6 (enc := enc) (C := Try.checked) false ⟨#[], #[], []⟩ 8 (by kernel_rfl) (by kernel_rfl) (by kernel_rfl) (by kernel_rfl)) ?_
  intro W base args ds gs before hval hW _ _
  refine law_calls (P := Try.prog) (d := 20) sound (fun _ => rfl) laidOut (by kernel_rfl) (tb := 4) (by kernel_rfl) (by kernel_rfl) rfl (fun ds hds => ?_) recoverKnown_all hval hW
  have hn : Try.f14.params.size = 0 := by kernel_rfl
  rw [hn] at hds
  match ds, hds with
  | [], _ => rfl

theorem recoverKnown_holds : Rows.RecoverKnownSaid :=
  OpenClaim.holds_of_wide 14 Try.f14 rfl rfl rfl rfl rfl rfl rfl ⟨rfl, rfl, rfl, rfl, rfl⟩ rfl rfl rfl rfl rfl (by kernel_rfl) Try.func14 (by kernel_rfl)
    (of_decide_eq_true (by kernel_rfl)) (by unfold Func.isWrapper; first | (rw [if_pos (by decide +kernel)]; kernel_rfl) | (rw [if_neg (by decide +kernel)]; exact ⟨rfl, rfl⟩))
    (fun os started H enc _ => recoverKnown_lifted os started H enc)

end Go.Proofs.Ytkamfflnfnjbeaa
