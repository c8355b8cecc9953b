/- TreeKnown answers true. -/
import Derived.Test.YtbibdnlbpjnieaaK24
namespace Go.Proofs.Ytbibdnlbpjnieaa
open Go Go.Abs Go.RowKit

theorem treeKnown_all (xs : List T) (h : FitAll Try.prog 20 Try.f5.params.toList xs) : ans Try.prog pol 5 xs = some (.sc (.bool true)) := by
  have hp : Try.f5.params.toList = [] := by kernel_rfl
  rw [hp] at h
  obtain rfl := fitAll_nil h
  exact known_ans

set_option maxRecDepth 100000 in
theorem treeKnown_lifted (os : Os) (started : os.Started) (H : Type) (enc : TypeId × Value → H) :
    ReturnsInHanded {} Try.checked os 5 .any (Rows.treeKnownSpec.pre6 enc Try.prog Try.f5 Rows.treeKnownRow.domain false) (Rows.treeKnownSpec.post enc Try.prog Try.f5 false true false false) := by
  refine returnsInHanded_of_change_sized (C := Try.checked) own started (by kernel_rfl) Try.func5
    (ChangeSpec.witness6 (enc := enc) (C := Try.checked) false ⟨#[], #[], []⟩ 8 (by kernel_rfl) (by kernel_rfl) (by kernel_rfl) (by kernel_rfl)) ?_
  intro W base args ds gs before hval hW _ hwt _
  refine law_calls (P := Try.prog) (d := 20) sound (fun _ => rfl) laidOut (by kernel_rfl) (tb := 4) (by kernel_rfl) (by kernel_rfl) rfl (fun ds hds => ?_) treeKnown_all hval hW hwt
  have hn : Try.f5.params.size = 0 := by kernel_rfl
  rw [hn] at hds
  match ds, hds with
  | [], _ => rfl

theorem treeKnown_holds : Rows.TreeKnownSaid :=
  OpenClaim.holds_of_wide 5 Try.f5 rfl rfl rfl rfl rfl rfl rfl ⟨rfl, rfl, rfl, rfl, rfl⟩ rfl rfl rfl rfl rfl (by kernel_rfl) Try.func5 (by kernel_rfl)
    (of_decide_eq_true (by kernel_rfl)) (by unfold Func.isWrapper; first | (rw [if_pos (by decide +kernel)]; kernel_rfl) | (rw [if_neg (by decide +kernel)]; exact ⟨rfl, rfl⟩))
    (fun os started H enc _ => treeKnown_lifted os started H enc)

end Go.Proofs.Ytbibdnlbpjnieaa
