/- TreeSteps answers true for all arguments: Check, Round, Cut and Restore agree with the definitions for every network. No conditions. -/
import Derived.Test.YtbibdnlbpjnieaaGreatS27
namespace Go.Proofs.YtbibdnlbpjnieaaGreat
open Go Go.Abs Go.RowKit

theorem treeSteps_all (xs : List T) (h : FitAll Tryz.prog 20 Tryz.f5.params.toList xs) : ans Tryz.prog pol 5 xs = some (.sc (.bool true)) := by
  have hp : Tryz.f5.params.toList = [31, 3] := by kernel_rfl
  rw [hp] at h
  obtain ⟨x0, r0, rfl, f0, h⟩ := q58 h
  obtain ⟨x1, r1, rfl, f1, h⟩ := q58 h
  obtain rfl := q8D h
  obtain ⟨c0, rfl, g0⟩ := q2e (ls := [.int .i64, .sl 1 4, .sl 4 70, .sl 1 3, .sl 1 4, .sl 5 65]) (by kernel_rfl) (by kernel_rfl) f0
  obtain ⟨y0_0, q0_0, rfl, v0_0, g0⟩ := q0h g0
  obtain ⟨y0_1, q0_1, rfl, v0_1, g0⟩ := q0h g0
  obtain ⟨y0_2, q0_2, rfl, v0_2, g0⟩ := q0h g0
  obtain ⟨y0_3, q0_3, rfl, v0_3, g0⟩ := q0h g0
  obtain ⟨y0_4, q0_4, rfl, v0_4, g0⟩ := q0h g0
  obtain ⟨y0_5, q0_5, rfl, v0_5, g0⟩ := q0h g0
  obtain rfl := q1L g0
  obtain ⟨n0_0, rfl, w0_0⟩ := v0_0
  obtain ⟨l0_1, rfl, k0_1, e0_1⟩ := v0_1
  obtain ⟨l0_2, rfl, k0_2, e0_2⟩ := v0_2
  obtain ⟨l0_3, rfl, k0_3, e0_3⟩ := v0_3
  obtain ⟨l0_4, rfl, k0_4, e0_4⟩ := v0_4
  obtain ⟨l0_5, rfl, k0_5, e0_5⟩ := v0_5
  obtain ⟨n1, rfl, w1⟩ := q36 (l := .int .i64) (by kernel_rfl) (by kernel_rfl) f1
  exact by
    obtain ⟨a1, rfl⟩ := bools e0_1
    obtain ⟨a2, rfl⟩ := links e0_2
    obtain ⟨a3, rfl⟩ := ints e0_3
    obtain ⟨a4, rfl⟩ := bools e0_4
    obtain ⟨a5, rfl, h5⟩ := bridges e0_5
    exact qj4 ⟨false, false, false, false, false⟩ ⟨⟨n0_0, a1, a2⟩, a3, a4, a5⟩ h5 n1

set_option maxRecDepth 100000 in
theorem treeSteps_lifted (os : Os) (started : os.Started) (H : Type) (enc : TypeId × Value → H) :
    ReturnsInHanded {} Tryz.checked os 5 .any (Rows.treeStepsSpec.pre6 enc Tryz.prog Tryz.f5 Rows.treeStepsRow.domain false) (Rows.treeStepsSpec.post enc Tryz.prog Tryz.f5 false true false false) := by
  refine returnsInHanded_of_change_sized (C := Tryz.checked) own started (by kernel_rfl) Tryz.func5
    (ChangeSpec.witness6 (enc := enc) (C := Tryz.checked) false ⟨#[], #[.agg #[.int .i64 0, .slice none 0 0, .slice none 0 0, .slice none 0 0, .slice none 0 0, .slice none 0 0], .int .i64 0], []⟩ 8 (by kernel_rfl) (by kernel_rfl) (by kernel_rfl) (by kernel_rfl)) ?_
  intro W base args ds gs before hval hW _ hwt _
  refine q8B (P := Tryz.prog) (d := 20) sound (fun _ => rfl) laidOut (by kernel_rfl) (tb := 4) (by kernel_rfl) (by kernel_rfl) rfl (fun ds hds => ?_) treeSteps_all hval hW hwt
  have hn : Tryz.f5.params.size = 2 := by kernel_rfl
  rw [hn] at hds
  match ds, hds with
  | [d0, d1], _ => rfl

theorem treeSteps_holds : Rows.TreeStepsSaid :=
  OpenClaim.holds_of_wide 5 Tryz.f5 rfl rfl rfl rfl rfl rfl rfl ⟨rfl, rfl, rfl, rfl, rfl⟩ rfl rfl rfl rfl rfl (by kernel_rfl) Tryz.func5 (by kernel_rfl)
    (of_decide_eq_true (by kernel_rfl)) (by unfold Func.isWrapper; first | (rw [if_pos (by decide +kernel)]; kernel_rfl) | (rw [if_neg (by decide +kernel)]; exact ⟨rfl, rfl⟩))
    (fun os started H enc _ => treeSteps_lifted os started H enc)

end Go.Proofs.YtbibdnlbpjnieaaGreat
