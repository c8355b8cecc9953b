/- PathKnown answers true: the known answers on the mesh. No conditions. -/
import Derived.Test.YtnjaokhdeaeegaaK18
namespace Go.Proofs.Ytnjaokhdeaeegaa
open Go Go.Abs Go.RowKit

theorem pathKnown_all (xs : List T) (h : FitAll Try.prog 20 Try.f9.params.toList xs) : ans Try.prog pol 9 xs = some (.sc (.bool true)) := by
  have hp : Try.f9.params.toList = [] := by kernel_rfl
  rw [hp] at h
  obtain rfl := q8v h
  exact qhP

set_option maxRecDepth 100000 in
theorem pathKnown_lifted (os : Os) (started : os.Started) (H : Type) (enc : TypeId × Value → H) :
    ReturnsInHanded {} Try.checked os 9 .any (Rows.pathKnownSpec.pre6 enc Try.prog Try.f9 Rows.pathKnownRow.domain false) (Rows.pathKnownSpec.post enc Try.prog Try.f9 false true false false) := by
  refine returnsInHanded_of_change_sized (C := Try.checked) own started (by kernel_rfl) Try.func9
    (ChangeSpec.witness6 (enc := enc) (C := Try.checked) false ⟨#[], #[], []⟩ 8 (by kernel_rfl) (by kernel_rfl) (by kernel_rfl) (by kernel_rfl)) ?_
  intro W base args ds gs before hval hW _ hwt _
  refine q8r (P := Try.prog) (d := 20) sound (fun _ => rfl) laidOut (by kernel_rfl) (tb := 4) (by kernel_rfl) (by kernel_rfl) rfl (fun ds hds => ?_) pathKnown_all hval hW hwt
  have hn : Try.f9.params.size = 0 := by kernel_rfl
  rw [hn] at hds
  match ds, hds with
  | [], _ => rfl

theorem pathKnown_holds : Rows.PathKnownSaid :=
  OpenClaim.holds_of_wide 9 Try.f9 rfl rfl rfl rfl rfl rfl rfl ⟨rfl, rfl, rfl, rfl, rfl⟩ rfl rfl rfl rfl rfl (by kernel_rfl) Try.func9 (by kernel_rfl)
    (of_decide_eq_true (by kernel_rfl)) (by unfold Func.isWrapper; first | (rw [if_pos (by decide +kernel)]; kernel_rfl) | (rw [if_neg (by decide +kernel)]; exact ⟨rfl, rfl⟩))
    (fun os started H enc _ => pathKnown_lifted os started H enc)

end Go.Proofs.Ytnjaokhdeaeegaa
